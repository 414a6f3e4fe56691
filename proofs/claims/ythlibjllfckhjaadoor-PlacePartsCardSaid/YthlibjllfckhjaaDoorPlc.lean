/-
  Functions of the program, each as plain Lean, and that the code does just that.
-/
import Derived.Test.YthlibjllfckhjaaDoorProg
import Derived.Test.YthlibjllfckhjaaDoorLiftC
import Derived.Test.YthlibjllfckhjaaDoorDskb
set_option linter.unusedSimpArgs false
set_option linter.unusedVariables false
set_option maxRecDepth 10000
namespace Go.Proofs.YthlibjllfckhjaaDoor
open Go Go.Proofs Go.LX
theorem ElemOf54 : ElemOf Tryd.prog 54 83 4 48 := ⟨Tryd.underlying54, elem_of (z := (.agg #[(.int .i64 (0)), (.int .i64 (0)), (.slice none 0 0), (.int .i64 (0))])) (by kernel_rfl) rfl⟩
theorem Fld83x0 : FieldAt Tryd.prog 83 0 0 := ⟨_, _, 0, Tryd.underlying83, rfl, rfl, by kernel_rfl⟩
theorem Fld83x1 : FieldAt Tryd.prog 83 1 1 := ⟨_, _, 0, Tryd.underlying83, rfl, rfl, by kernel_rfl⟩
theorem Fld83x2 : FieldAt Tryd.prog 83 2 2 := ⟨_, _, 0, Tryd.underlying83, rfl, rfl, by kernel_rfl⟩
theorem Fld83x3 : FieldAt Tryd.prog 83 3 3 := ⟨_, _, 0, Tryd.underlying83, rfl, rfl, by kernel_rfl⟩
theorem fnOk32 : FnOk Tryd.prog 32 := ⟨_, Tryd.func32, by kernel_rfl, rfl⟩
theorem fnOk33 : FnOk Tryd.prog 33 := ⟨_, Tryd.func33, by kernel_rfl, rfl⟩
theorem fnOk34 : FnOk Tryd.prog 34 := ⟨_, Tryd.func34, by kernel_rfl, rfl⟩
theorem fnOk35 : FnOk Tryd.prog 35 := ⟨_, Tryd.func35, by kernel_rfl, rfl⟩
theorem fnOk52 : FnOk Tryd.prog 52 := ⟨_, Tryd.func52, by kernel_rfl, rfl⟩
theorem fnOk53 : FnOk Tryd.prog 53 := ⟨_, Tryd.func53, by kernel_rfl, rfl⟩
theorem fnOk54 : FnOk Tryd.prog 54 := ⟨_, Tryd.func54, by kernel_rfl, rfl⟩
theorem fnOk55 : FnOk Tryd.prog 55 := ⟨_, Tryd.func55, by kernel_rfl, rfl⟩
theorem fnOk56 : FnOk Tryd.prog 56 := ⟨_, Tryd.func56, by kernel_rfl, rfl⟩
theorem fnOk57 : FnOk Tryd.prog 57 := ⟨_, Tryd.func57, by kernel_rfl, rfl⟩
theorem fnOk58 : FnOk Tryd.prog 58 := ⟨_, Tryd.func58, by kernel_rfl, rfl⟩
theorem fnOk75 : FnOk Tryd.prog 75 := ⟨_, Tryd.func75, by kernel_rfl, rfl⟩
theorem fnOk76 : FnOk Tryd.prog 76 := ⟨_, Tryd.func76, by kernel_rfl, rfl⟩
theorem fnOk77 : FnOk Tryd.prog 77 := ⟨_, Tryd.func77, by kernel_rfl, rfl⟩
theorem Many83 : Many Tryd.prog 83 [(.int .i64 (0)), (.int .i64 (0)), (.slice none 0 0), (.int .i64 (0))] := ⟨⟨_, Tryd.underlying83, trivial⟩, by kernel_rfl⟩
theorem Over78 : OverFn Tryd.prog 78 54 4 := ⟨fun args w => run_callFunc_extern Tryd.func78 (by kernel_rfl) (by kernel_rfl) (by kernel_rfl) (e := Extern.SlicesOverlaps.overlaps #[54, 54] #[4]) (by kernel_rfl) args w⟩
theorem SliceOf54 : SliceOf Tryd.prog 54 83 4 := ⟨Tryd.underlying54, by kernel_rfl⟩
theorem Struct83 : Struct Tryd.prog 83 [(.int .i64 (0)), (.int .i64 (0)), (.slice none 0 0), (.int .i64 (0))] [(0, 1), (1, 1), (2, 1), (3, 1)] := ⟨by kernel_rfl, _, Tryd.underlying83, by kernel_rfl⟩
theorem ZeroOne83 : ZeroOne Tryd.prog 83 := ⟨(.agg #[(.int .i64 (0)), (.int .i64 (0)), (.slice none 0 0), (.int .i64 (0))]), by kernel_rfl, by kernel_rfl⟩
def place_Check_j10 (nx6 : Unit → Option Int) (x19 : Bool) : Option Int :=
  bif x19 then some 6 else nx6 ()
def place_Check_b11 (a : List Co) (i3 : Int) (x4 : Co) (s : Unit) (nx6 : Unit → Option Int) : Option Int :=
  bif (((((decide ((x4.id_ : Int) < 0) || decide ((3 : Int) ≤ x4.id_)) || decide ((x4.epoch : Int) < 1)) || decide ((100 : Int) < x4.epoch)) || decide ((x4.offered : Int) < -1)) || decide ((3 : Int) ≤ x4.offered)) then some 3 else bif (decide (((x4.image.length : Int) : Int) = 0) || decide ((1200 : Int) < (x4.image.length : Int))) then some 2 else bif decide ((0 : Int) < i3) then grd (I64 (i3 - 1)) ((idx a (i3 - 1)).bind fun x23 => place_Check_j10 nx6 (decide ((x4.id_ : Int) ≤ x23.id_))) else place_Check_j10 nx6 false
def place_Check_k12 (s : Unit) : Option Int :=
  some 0
def place_Check (a : List Co) : Option Int :=
  bif decide ((3 : Int) < (a.length : Int)) then some 2 else eachI (place_Check_b11 a) place_Check_k12 0 a ()
theorem place_Check_c (w0 : World) (M : BS) (hM : ∀ b, M b → b < w0.heap.size) (va : Value) (a : List Co) (ha : Rd2 rCo w0 BE M va a) (r : Int) (hs : place_Check a = some r) :
    Calls Tryd.prog 53 #[va] w0 (fun e w' => Grow w0 w' ∧ e = .returned (.int .i64 r)) := by
 refine calls_start (args := [va]) Tryd.func53 rfl Tryd.ntmps53 (Nat.le_of_ble_eq_true rfl) ?_
 have h := SH.init hM
 replace h := h.argSr 1 ha none_own
 have hl_a := ha.len_le
 refine wc_seq (wc_region (wl_ok (r_assign (v := (.int .i64 (0))) rfl) (wl_nil (then_normal (wc_seq (wc_seq (wc_region (wl_ok (r_move (v := va) rfl) (wl_ok (r_len SliceOf54 rfl (h.srS 1 rfl)) (wl_ok (r_gtr rfl rfl) (wl_nil (then_normal (wc_ifb hs rfl (fun c1 hs => ?_) (fun c1 hs => ?_))))))))))))))
 ·
  refine wc_seq (wc_region (wl_ok (r_assign (v := (.int .i64 (2))) rfl) (wl_nil (then_normal (wc_ret (then_ret (fin1 (v := (.int .i64 (2))) Tryd.results53 rfl ?_)))))))
  obtain rfl := Option.some.inj hs
  exact ⟨h.grown, rfl⟩
 ·
  refine wc_skip (then_normal (wc_seq (wc_seq (wc_region (wl_ok (r_move (v := va) rfl) (wl_ok (r_len SliceOf54 rfl (h.srS 1 rfl)) (wl_ok (r_move (v := (.int .i64 (0))) rfl) (wl_nil (then_normal (wc_block (wc_lp (σ := Nat × Int) (inl [2, 3, 4, 10, 11, 12, 13, 14, 15, 16, 17, 18, 19, 20, 21, 22, 23, 24, 25, 26, 27, 28, 29, 30, 31, 32, 33, 34, 35, 36, 37, 38, 39, 40, 41, 42, 43, 44, 45, 46, 47, 48, 49, 50, 51, 52, 53, 54, 55, 56, 57, 58, 59, 60, 61, 62, 63, 64, 65, 66]) (fun ⟨k2, i3⟩ => [(10, (.int .i64 (i3)))]) (fun ⟨k2, i3⟩ w => SH w0 M BE w (hset [(1, .sr rCo va a)]) ∧ i3 = (k2 : Int) ∧ eachI (place_Check_b11 a) place_Check_k12 i3 (a.drop k2) () = some r) (fun ⟨k2, i3⟩ => a.length - k2) ⟨0, 0⟩ ⟨rfl, trivial⟩ ?_ ?_)))))))))))
  ·
   exact ⟨h.cn _, rfl, hs⟩
  ·
   rintro ⟨k2, i3⟩ w junk ⟨h, hik, hs⟩
   refine wc_seq (wc_region ?_)
   refine wl_ok (r_lss rfl rfl) (wl_nil (then_normal ?_))
   refine wc_seq (wc_if rfl (fun e7 => ?_) (fun e7 => ?_))
   ·
    refine wc_skip (then_normal ?_)
    obtain ⟨x4, e8a, e8b⟩ := drop_lt (hik ▸ e7)
    rw [e8b, eachI_cons] at hs
    generalize hnx6 : eachI (place_Check_b11 a) place_Check_k12 (i3 + 1) (a.drop (k2 + 1)) = nx6 at hs
    have e8r := nat_rng ((h.srS 1 rfl)).len_le hik e7
    refine wc_seq (wc_block (wc_seq (wc_region (wl_ok (r_move (v := (.int .i64 (i3))) rfl) ?_))))
    obtain ⟨b10, o11, cs12, h, r13, i9⟩ := h.ixS 1 2 rfl SliceOf54 rfl (nat_nn hik) (get_nat hik e8a)
    obtain ⟨u14, rfl, g15⟩ := rCo_open r13
    replace h := h.knowRd 3 g15.up
    refine wl_ok (i9 _ _ _ _ _ _ _ _ _ rfl rfl) (wl_ok (r_ldPN (k := 0) (vs := [(.int .i64 (x4.id_)), (.int .i64 (x4.epoch)), u14, (.int .i64 (x4.offered))]) h 2 rfl Many83 rfl rfl rfl (Nat.le_of_ble_eq_true rfl)) (w_allocN h 4 Many83 fun w b16 h => wl_ok (r_assign (v := (.int .i64 (i3))) rfl) (w_stN (vs := [(.int .i64 (x4.id_)), (.int .i64 (x4.epoch)), u14, (.int .i64 (x4.offered))]) h 4 [(.int .i64 (x4.id_)), (.int .i64 (x4.epoch)), u14, (.int .i64 (x4.offered))] rfl Many83 rfl rfl rfl rfl rfl (ones_cons rfl (ones_cons rfl (ones_cons (h.rdAt 3 rfl).one (ones_cons rfl ones_nil)))) fun w h => wl_nil (then_normal (wc_seq (wc_seq (wc_region (wl_ok (r_fieldAddr Fld83x0 rfl) (wl_ok (r_ldB h 4 rfl One3 rfl rfl) (wl_ok (r_lss rfl rfl) (wl_ok (r_move (v := (.bool (decide ((x4.id_ : Int) < 0)))) rfl) (wl_gd0 rfl rfl (fun q => r_fieldAddr Fld83x0 rfl) (wl_gd0 rfl rfl (fun q => r_ldB h 4 rfl One3 (gvt q) rfl) (wl_gd0 rfl rfl (fun q => r_geq (gvt q) rfl) (wl_ok (r_por rfl rfl evc) (wl_ok (r_move (v := (.bool ((decide ((x4.id_ : Int) < 0) || decide ((3 : Int) ≤ x4.id_))))) rfl) (wl_gd0 rfl rfl (fun q => r_fieldAddr Fld83x1 rfl) (wl_gd0 rfl rfl (fun q => r_ldB h 4 rfl One3 (gvt q) rfl) (wl_gd0 rfl rfl (fun q => r_lss (gvt q) rfl) (wl_ok (r_por rfl rfl evc) (wl_ok (r_move (v := (.bool (((decide ((x4.id_ : Int) < 0) || decide ((3 : Int) ≤ x4.id_)) || decide ((x4.epoch : Int) < 1))))) rfl) ?_)))))))))))))))))))))
    refine wl_gd0 rfl rfl (fun q => r_fieldAddr Fld83x1 rfl) (wl_gd0 rfl rfl (fun q => r_ldB h 4 rfl One3 (gvt q) rfl) (wl_gd0 rfl rfl (fun q => r_gtr (gvt q) rfl) (wl_ok (r_por rfl rfl evc) (wl_ok (r_move (v := (.bool ((((decide ((x4.id_ : Int) < 0) || decide ((3 : Int) ≤ x4.id_)) || decide ((x4.epoch : Int) < 1)) || decide ((100 : Int) < x4.epoch))))) rfl) (wl_gd0 rfl rfl (fun q => r_fieldAddr Fld83x3 rfl) (wl_gd0 rfl rfl (fun q => r_ldB h 4 rfl One3 (gvt q) rfl) (wl_gd0 rfl rfl (fun q => r_lss (gvt q) rfl) (wl_ok (r_por rfl rfl evc) (wl_ok (r_move (v := (.bool (((((decide ((x4.id_ : Int) < 0) || decide ((3 : Int) ≤ x4.id_)) || decide ((x4.epoch : Int) < 1)) || decide ((100 : Int) < x4.epoch)) || decide ((x4.offered : Int) < -1))))) rfl) (wl_gd0 rfl rfl (fun q => r_fieldAddr Fld83x3 rfl) (wl_gd0 rfl rfl (fun q => r_ldB h 4 rfl One3 (gvt q) rfl) (wl_gd0 rfl rfl (fun q => r_geq (gvt q) rfl) (wl_ok (r_por rfl rfl evc) (wl_nil (then_normal (wc_ifb hs rfl (fun c17 hs => ?_) (fun c17 hs => ?_)))))))))))))))))
    ·
     refine wc_seq (wc_region (wl_ok (r_assign (v := (.int .i64 (3))) rfl) (wl_nil (then_normal (wc_ret (then_ret (inBlock_ret (then_ret (then_ret (inBlock_ret (then_ret (fin1 (v := (.int .i64 (3))) Tryd.results53 rfl ?_))))))))))))
     obtain rfl := Option.some.inj hs
     exact ⟨h.grown, rfl⟩
    ·
     refine wc_skip (then_normal (wc_seq (wc_seq (wc_region (wl_ok (r_fieldAddr Fld83x2 rfl) (wl_ok (r_ldB h 4 rfl One22 rfl rfl) (wl_ok (r_len SliceOf22 rfl (h.rdS 3 rfl)) (wl_ok (r_eql rfl rfl) (wl_ok (r_move (v := (.bool (decide (((x4.image.length : Int) : Int) = 0)))) rfl) (wl_gd0 rfl rfl (fun q => r_fieldAddr Fld83x2 rfl) (wl_gd0 rfl rfl (fun q => r_ldB h 4 rfl One22 (gvt q) rfl) (wl_gd0 rfl rfl (fun q => r_len SliceOf22 (gvt q) (h.rdS 3 rfl)) (wl_gd0 rfl rfl (fun q => r_gtr (gvt q) rfl) (wl_ok (r_por rfl rfl evc) (wl_nil (then_normal (wc_ifb hs rfl (fun c18 hs => ?_) (fun c18 hs => ?_))))))))))))))))))
     ·
      refine wc_seq (wc_region (wl_ok (r_assign (v := (.int .i64 (2))) rfl) (wl_nil (then_normal (wc_ret (then_ret (inBlock_ret (then_ret (then_ret (inBlock_ret (then_ret (fin1 (v := (.int .i64 (2))) Tryd.results53 rfl ?_))))))))))))
      obtain rfl := Option.some.inj hs
      exact ⟨h.grown, rfl⟩
     ·
      refine wc_skip (then_normal (wc_join (σ := Bool) (inl [53, 54, 55, 56, 57, 58, 59, 60, 61, 62, 63, 64, 65]) (fun x19 => [(65, (.bool (x19)))]) (fun x19 w => SH w0 M BE w (hset [(1, .sr rCo va a), (3, .rd rInt u14 x4.image), (4, .blk b16 [(.int .i64 (x4.id_)), (.int .i64 (x4.epoch)), u14, (.int .i64 (x4.offered))])]) ∧ place_Check_j10 nx6 x19 = some r) ?_ ?_))
      ·
       rintro x19 w junk ⟨h, hs⟩
       refine wc_ifb hs rfl (fun c20 hs => ?_) (fun c20 hs => ?_)
       ·
        refine wc_seq (wc_region (wl_ok (r_assign (v := (.int .i64 (6))) rfl) (wl_nil (then_normal (wc_ret (inBlock_ret (then_ret (then_ret (inBlock_ret (then_ret (fin1 (v := (.int .i64 (6))) Tryd.results53 rfl ?_)))))))))))
        obtain rfl := Option.some.inj hs
        exact ⟨h.grown, rfl⟩
       ·
        refine wc_skip (inBlock_normal (then_normal (wc_region (wl_ok (r_add rfl rfl e8r) (wl_ok (r_move (v := (.int .i64 ((i3 + 1)))) rfl) (wl_nil (then_loop ?_)))))))
        subst hnx6
        exact lend ⟨k2 + 1, i3 + 1⟩ ⟨h.cn _, by omega, hs⟩ (by have := of_decide_eq_true e7; dsimp only; omega)
      ·
       refine wc_still mixed (by kernel_rfl) h fun w h => wk_ok (r_move (v := (.int .i64 (i3))) rfl) (wk_ok (r_gtr rfl rfl) (wk_ok (r_move (v := (.bool (decide ((0 : Int) < i3)))) rfl) (c_split (b := decide ((0 : Int) < i3)) hs (fun c21 hs => ?_) (fun c21 hs => ?_))))
       ·
        refine wk_on rfl (congrArg Value.bool c21) (wk_ok (r_move (v := va) rfl) (wk_on rfl (congrArg Value.bool c21) (wk_ok (r_move (v := (.int .i64 (i3))) rfl) (wk_on rfl (congrArg Value.bool c21) ?_))))
        obtain ⟨a22, hs⟩ := o_grd hs
        refine wk_ok (r_sub rfl rfl a22) (wk_on rfl (congrArg Value.bool c21) ?_)
        obtain ⟨x23, e24, hs⟩ := o_bind hs
        obtain ⟨b26, o27, cs28, h, r29, i25⟩ := h.ixS 1 5 rfl SliceOf54 rfl (o_idx e24).1 (o_idx e24).2
        obtain ⟨u30, rfl, g31⟩ := rCo_open r29
        replace h := h.knowRd 6 g31.up
        refine wk_ok (i25 _ _ _ _ _ _ _ _ _ rfl rfl) (wk_on rfl (congrArg Value.bool c21) (wk_ok (r_fieldAddr Fld83x0 rfl) (wk_on rfl (congrArg Value.bool c21) (wk_ok (r_ldP (k := 0) h 5 rfl One3 rfl rfl) (wk_on rfl (congrArg Value.bool c21) (wk_ok (r_fieldAddr Fld83x0 rfl) (wk_on rfl (congrArg Value.bool c21) (wk_ok (r_ldB h 4 rfl One3 rfl rfl) (wk_on rfl (congrArg Value.bool c21) (wk_ok (r_geq rfl rfl) (wk_ok (r_pick (b := true) (v := (.bool (decide ((x4.id_ : Int) ≤ x23.id_)))) (congrArg Value.bool c21) rfl) (wk_end (then_loop ?_)))))))))))))
        exact jend (decide ((x4.id_ : Int) ≤ x23.id_)) ⟨h.cn _, hs⟩
       ·
        refine wk_off (b' := false) rfl (congrArg Value.bool c21) rfl (wk_off (b' := false) rfl (congrArg Value.bool c21) rfl (wk_off (b' := false) rfl (congrArg Value.bool c21) rfl (wk_off (b' := false) rfl (congrArg Value.bool c21) rfl (wk_off (b' := false) rfl (congrArg Value.bool c21) rfl (wk_off (b' := false) rfl (congrArg Value.bool c21) rfl (wk_off (b' := false) rfl (congrArg Value.bool c21) rfl (wk_off (b' := false) rfl (congrArg Value.bool c21) rfl (wk_off (b' := false) rfl (congrArg Value.bool c21) rfl (wk_ok (r_pick (b := false) (v := (.bool (false))) (congrArg Value.bool c21) rfl) (wk_end (then_loop ?_)))))))))))
        exact jend false ⟨h.cn _, hs⟩
   ·
    rw [drop_ge (hik ▸ e7), eachI_nil] at hs
    refine wc_exit (then_exit (then_exit (inBlock_eq (then_normal (wc_seq (wc_region (wl_ok (r_assign (v := (.int .i64 (0))) rfl) (wl_nil (then_normal (wc_ret (fin1 (v := (.int .i64 (0))) Tryd.results53 rfl ?_)))))))))))
    obtain rfl := Option.some.inj hs
    exact ⟨h.grown, rfl⟩
theorem slices_Clone_Co_c (w0 : World) (M : BS) (hM : ∀ b, M b → b < w0.heap.size) (va : Value) (a : List Co) (ha : Rd2 rCo w0 BE M va a) (r : List Co) (hs : clone 48 a = some r) :
    Calls Tryd.prog 77 #[va] w0 (fun e w' => Grow w0 w' ∧ ∃ u0, e = .returned u0 ∧ OwnSl rCo 83 w' M u0 r ∧ (∀ b, ob u0 b → w0.heap.size ≤ b)) := by
  obtain ⟨hr, hs⟩ := o_grd hs
  cases hs
  refine calls_start (args := [va]) Tryd.func77 rfl Tryd.ntmps77 (Nat.le_of_ble_eq_true rfl) ?_
  have h := (SH.init hM).argSr 1 ha none_own
  refine wc_seq (wc_region (wl_ok (r_assign rfl) (wl_nil (then_normal ?_))))
  refine wc_seq (wc_seq (wc_region (wl_ok (r_move rfl) (wl_ok (r_eqnil SliceOf54 rfl (h.srS 1 rfl) rfl) (wl_nil (then_normal ?_))))))
  refine wc_if rfl (fun c => ?_) (fun c => ?_)
  · obtain ⟨c1, c2⟩ := nil_of_isNil (h.srS 1 rfl) c
    refine wc_seq (wc_region (wl_ok (r_assign rfl) (wl_nil (then_normal (wc_ret (then_ret ?_))))))
    refine fin1 (v := .slice none 0 0) Tryd.results77 rfl ?_
    rw [c2]
    exact ⟨h.grown, _, rfl, OwnSl.nil, fresh_nil⟩
  · refine wc_skip (then_normal ?_)
    refine wc_seq (wc_region ?_)
    refine w_bs (R := rCo) (vs := []) (xs := []) h 2 ElemOf54 rfl rfl rfl trivial rfl fun w u h => ?_
    refine wl_ok (r_move rfl) ?_
    refine w_app (R := rCo) (m := a) h 2 rfl (h.srS 1 rfl) ElemOf54 rfl rfl rfl hr.1 hr.2 fun w u h => ?_
    refine wl_ok (r_assign rfl) (wl_nil (then_normal (wc_ret ?_)))
    refine fin1 (v := u) Tryd.results77 rfl ?_
    exact ⟨h.grown, _, rfl, (h.outOwn 2 rfl).1, (h.outOwn 2 rfl).2⟩
def place_Copy_b3 (i12 : Int) (x10 : List Co) (nx15 : List Co → Option (List Co)) : Option (List Co) :=
  (idx x10 i12).bind fun x18 => (clone 8 x18.image).bind fun y29 => nx15 (x10.set (i12).toNat { x18 with image := y29 })
def place_Copy_k4 (x10 : List Co) : Option (List Co) :=
  some x10
def place_Copy (a : List Co) : Option (List Co) :=
  (clone 48 a).bind fun y1 => upto place_Copy_b3 place_Copy_k4 0 ((y1.length : Int)).toNat y1
theorem place_Copy_c (w0 : World) (M : BS) (hM : ∀ b, M b → b < w0.heap.size) (va : Value) (a : List Co) (ha : Rd2 rCo w0 BE M va a) (r : List Co) (hs : place_Copy a = some r) :
    Calls Tryd.prog 54 #[va] w0 (fun e w' => Grow w0 w' ∧ ∃ u0, e = .returned (u0) ∧ OwnSl rCo 83 w' M u0 r ∧ (∀ b, ob u0 b → w0.heap.size ≤ b)) := by
 refine calls_start (args := [va]) Tryd.func54 rfl Tryd.ntmps54 (Nat.le_of_ble_eq_true rfl) ?_
 have h := SH.init hM
 replace h := h.argSr 1 ha none_own
 have hl_a := ha.len_le
 refine wc_seq (wc_region (wl_ok (r_assign (v := (.slice none 0 0)) rfl) (wl_nil (then_normal (wc_seq (wc_region (wl_ok (r_move (v := va) rfl) ?_)))))))
 obtain ⟨y1, e2, hs⟩ := o_bind hs
 refine w_call fnOk77 rfl rfl (slices_Clone_Co_c _ _ h.lt va a (h.srS 1 rfl) _ e2) ?_
 rintro _ w ⟨k6, u3, rfl, g4, g5⟩
 refine ⟨_, rfl, ?_⟩
 replace h := h.gotOwn 2 k6 g4 g5
 refine wl_ok (r_assign (v := u3) rfl) (wl_nil (then_normal (wc_seq (wc_seq (wc_region (wl_ok (r_move (v := u3) rfl) (wl_ok (r_len SliceOf54 rfl (h.ownS 2 rfl)) (wl_ok (r_move (v := (.int .i64 (0))) rfl) (wl_nil (then_normal (wc_block ?_)))))))))))
 have hli12 := (h.ownS 2 rfl).len_le
 refine wc_lp (σ := Nat × Int × List Co) (inl [3, 4, 9, 10, 11, 12, 13, 14, 15, 16, 17, 18, 19, 20, 21]) (fun ⟨k11, i12, x10⟩ => [(9, (.int .i64 (i12)))]) (fun ⟨k11, i12, x10⟩ w => SH w0 M BE w (hset [(2, .own rCo 83 u3 x10)]) ∧ i12 = (k11 : Int) ∧ upto place_Copy_b3 place_Copy_k4 i12 (((y1.length : Int)).toNat - k11) x10 = some r) (fun ⟨k11, i12, x10⟩ => ((y1.length : Int)).toNat - k11) ⟨0, 0, y1⟩ ⟨rfl, trivial⟩ ?_ ?_
 ·
  exact ⟨h.cn _, rfl, hs⟩
 ·
  rintro ⟨k11, i12, x10⟩ w junk ⟨h, hik, hs⟩
  refine wc_seq (wc_region ?_)
  refine wl_ok (r_lss rfl rfl) (wl_nil (then_normal ?_))
  refine wc_seq (wc_if rfl (fun e16 => ?_) (fun e16 => ?_))
  ·
   refine wc_skip (then_normal ?_)
   rw [upto_lt (by have := of_decide_eq_true e16; omega)] at hs
   generalize hnx15 : upto place_Copy_b3 place_Copy_k4 (i12 + 1) (((y1.length : Int)).toNat - (k11 + 1)) = nx15 at hs
   have e17r : I64 (i12 + 1) := (by have := of_decide_eq_true e16; have := hli12; exact I64.mk (by omega) (by omega))
   refine wc_seq (wc_block (wc_seq (wc_region (wl_ok (r_move (v := (.int .i64 (i12))) rfl) ?_))))
   obtain ⟨x18, e19, hs⟩ := o_bind hs
   obtain ⟨b21, q22, i20⟩ := h.ixO 2 rfl SliceOf54 rfl (o_idx e19).1 (o_idx e19).2
   refine wl_ok (i20 _ _ _ _ _ _ _ _ _ rfl rfl) ?_
   obtain ⟨cs23, m24, r25⟩ := h.elO 2 rfl q22 (o_idx e19).2
   obtain ⟨u26, rfl, g27⟩ := rCo_open r25
   replace h := h.knowRd 3 g27
   refine wl_ok (r_ldAN (k := 0) (vs := [(.int .i64 (x18.id_)), (.int .i64 (x18.epoch)), u26, (.int .i64 (x18.offered))]) m24 Many83 rfl rfl rfl (Nat.le_of_ble_eq_true rfl)) (w_allocN h 4 Many83 fun w b28 h => wl_ok (r_assign (v := (.int .i64 (i12))) rfl) (w_stN (vs := [(.int .i64 (x18.id_)), (.int .i64 (x18.epoch)), u26, (.int .i64 (x18.offered))]) h 4 [(.int .i64 (x18.id_)), (.int .i64 (x18.epoch)), u26, (.int .i64 (x18.offered))] rfl Many83 rfl rfl rfl rfl rfl (ones_cons rfl (ones_cons rfl (ones_cons (h.rdAt 3 rfl).one (ones_cons rfl ones_nil)))) fun w h => wl_nil (then_normal (wc_region (wl_ok (r_move (v := u3) rfl) (wl_ok (r_move (v := (.int .i64 (i12))) rfl) (wl_ok (r_fieldAddr Fld83x2 rfl) (wl_ok (r_ldB h 4 rfl One22 rfl rfl) ?_))))))))
   obtain ⟨y29, e30, hs⟩ := o_bind hs
   refine w_call fnOk42 rfl rfl (slices_Clone_int_c _ _ h.lt u26 x18.image (h.rdS 3 rfl) _ e30) ?_
   rintro _ w ⟨k34, u31, rfl, g32, g33⟩
   refine ⟨_, rfl, ?_⟩
   replace h := h.gotOwn 5 k34 g32 g33
   obtain ⟨b36, q37, i35⟩ := h.ixO 2 rfl SliceOf54 rfl (o_idx e19).1 (o_idx e19).2
   refine wl_ok (i35 _ _ _ _ _ _ _ _ _ rfl rfl) (wl_ok (r_fieldAddr Fld83x2 rfl) ?_)
   replace h := h.freeze 5 rfl
   refine w_stO (a' := { x18 with image := y29 }) h 2 rfl q37 rfl (o_idx e19).2 One22 rfl rfl (h.rdAt 5 rfl).one rfl (by rintro _ hq; obtain ⟨p2, rfl, q2⟩ := rCo_open hq; exact ⟨_, rfl, (h.rdAt 5 rfl)⟩) fun w h => wl_nil (inBlock_normal (then_normal (wc_region (wl_ok (r_add rfl rfl e17r) (wl_ok (r_move (v := (.int .i64 ((i12 + 1)))) rfl) (wl_nil (then_loop ?_)))))))
   subst hnx15
   exact lend ⟨k11 + 1, i12 + 1, (x10.set (i12).toNat { x18 with image := y29 })⟩ ⟨h.cn _, by omega, hs⟩ (by have := of_decide_eq_true e16; dsimp only; omega)
  ·
   rw [upto_ge (by have := of_decide_eq_false e16; omega)] at hs
   refine wc_exit (then_exit (then_exit (inBlock_eq (then_normal (wc_seq (wc_region (wl_ok (r_move (v := u3) rfl) (wl_ok (r_assign (v := u3) rfl) (wl_nil (then_normal (wc_ret (fin1 (v := u3) Tryd.results54 rfl ?_))))))))))))
   obtain rfl := Option.some.inj hs
   exact ⟨h.grown, _, rfl, (h.outOwn 2 rfl).1, (h.outOwn 2 rfl).2⟩
def place_Find_b7 (a : List Co) (b : Int) (i3 : Int) (s : Unit) (nx6 : Unit → Option Int) : Option Int :=
  (idx a i3).bind fun x9 => bif decide ((x9.id_ : Int) = b) then some i3 else nx6 ()
def place_Find_k8 (s : Unit) : Option Int :=
  some (-1)
def place_Find (a : List Co) (b : Int) : Option Int :=
  upto (place_Find_b7 a b) place_Find_k8 0 ((a.length : Int)).toNat ()
theorem place_Find_c (w0 : World) (M : BS) (hM : ∀ b, M b → b < w0.heap.size) (va : Value) (a : List Co) (ha : Rd2 rCo w0 BE M va a) (b : Int) (r : Int) (hs : place_Find a b = some r) :
    Calls Tryd.prog 52 #[va, (.int .i64 (b))] w0 (fun e w' => Grow w0 w' ∧ e = .returned (.int .i64 r)) := by
 refine calls_start (args := [va, (.int .i64 (b))]) Tryd.func52 rfl Tryd.ntmps52 (Nat.le_of_ble_eq_true rfl) ?_
 have h := SH.init hM
 replace h := h.argSr 1 ha none_own
 have hl_a := ha.len_le
 refine wc_seq (wc_region (w_box (cs := [(.int .i64 (b))]) h 2 rfl rfl fun w b1 h => wl_ok (r_assign (v := (.int .i64 (0))) rfl) (wl_nil (then_normal (wc_seq (wc_region (wl_ok (r_move (v := va) rfl) (wl_ok (r_makeFunc (c1 := []) (c2 := [(.pointer (some ⟨b1, 0, none⟩))]) rfl rfl) (w_callIn (args := [va, (.func (.func 76) #[] #[(.pointer (some ⟨b1, 0, none⟩))])]) fnOk75 rfl rfl (calls_start (args := [va, (.func (.func 76) #[] #[(.pointer (some ⟨b1, 0, none⟩))])]) Tryd.func75 rfl Tryd.ntmps75 (Nat.le_of_ble_eq_true rfl) (wc_seq (wc_region (wl_ok (r_assign (v := (.int .i64 (0))) rfl) (wl_nil (then_normal (wc_seq (wc_seq (wc_region (wl_ok (r_move (v := va) rfl) (wl_ok (r_len SliceOf54 rfl (h.srS 1 rfl)) (wl_ok (r_move (v := (.int .i64 (0))) rfl) (wl_nil ?_))))))))))))))))))))))
 refine then_normal (wc_block ?_)
 have hli3 := (h.srS 1 rfl).len_le
 refine wc_lp (σ := Nat × Int) (inl [4, 5, 8, 9, 10, 11, 12, 13, 14, 15, 16, 17, 18]) (fun ⟨k2, i3⟩ => [(8, (.int .i64 (i3)))]) (fun ⟨k2, i3⟩ w => SH w0 M BE w (hset [(1, .sr rCo va a), (2, .blk b1 [(.int .i64 (b))])]) ∧ i3 = (k2 : Int) ∧ upto (place_Find_b7 a b) place_Find_k8 i3 (((a.length : Int)).toNat - k2) () = some r) (fun ⟨k2, i3⟩ => ((a.length : Int)).toNat - k2) ⟨0, 0⟩ ⟨rfl, trivial⟩ ?_ ?_
 ·
  exact ⟨h.cn _, rfl, hs⟩
 ·
  rintro ⟨k2, i3⟩ w junk ⟨h, hik, hs⟩
  refine wc_seq (wc_region ?_)
  refine wl_ok (r_lss rfl rfl) (wl_nil (then_normal ?_))
  refine wc_seq (wc_if rfl (fun e7 => ?_) (fun e7 => ?_))
  ·
   refine wc_skip (then_normal ?_)
   rw [upto_lt (by have := of_decide_eq_true e7; omega)] at hs
   generalize hnx6 : upto (place_Find_b7 a b) place_Find_k8 (i3 + 1) (((a.length : Int)).toNat - (k2 + 1)) = nx6 at hs
   have e8r : I64 (i3 + 1) := (by have := of_decide_eq_true e7; have := hli3; exact I64.mk (by omega) (by omega))
   refine wc_seq (wc_block (wc_seq (wc_region (wl_ok (r_move (v := (.int .i64 (i3))) rfl) (wl_ok (r_assign (v := (.int .i64 (i3))) rfl) (wl_nil (then_normal (wc_seq (wc_region (wl_ok (r_move (v := (.func (.func 76) #[] #[(.pointer (some ⟨b1, 0, none⟩))])) rfl) (wl_ok (r_move (v := va) rfl) (wl_ok (r_move (v := (.int .i64 (i3))) rfl) ?_))))))))))))
   obtain ⟨x9, e10, hs⟩ := o_bind hs
   obtain ⟨b12, o13, cs14, h, r15, i11⟩ := h.ixS 1 3 rfl SliceOf54 rfl (o_idx e10).1 (o_idx e10).2
   obtain ⟨u16, rfl, g17⟩ := rCo_open r15
   replace h := h.knowRd 4 g17.up
   refine wl_ok (i11 _ _ _ _ _ _ _ _ _ rfl rfl) (wl_ok (r_ldPN (k := 0) (vs := [(.int .i64 (x9.id_)), (.int .i64 (x9.epoch)), u16, (.int .i64 (x9.offered))]) h 3 rfl Many83 rfl rfl rfl (Nat.le_of_ble_eq_true rfl)) (w_callIn (args := [(.agg #[(.int .i64 (x9.id_)), (.int .i64 (x9.epoch)), u16, (.int .i64 (x9.offered))]), (.pointer (some ⟨b1, 0, none⟩))]) fnOk76 rfl rfl (calls_start (args := [(.agg #[(.int .i64 (x9.id_)), (.int .i64 (x9.epoch)), u16, (.int .i64 (x9.offered))]), (.pointer (some ⟨b1, 0, none⟩))]) Tryd.func76 rfl Tryd.ntmps76 (Nat.le_of_ble_eq_true rfl) (wc_seq (wc_region (w_box (cs := [(.int .i64 (x9.id_)), (.int .i64 (x9.epoch)), u16, (.int .i64 (x9.offered))]) h 5 rfl rfl fun w b18 h => wl_ok (r_assign (v := (.bool (false))) rfl) (wl_nil (then_normal (wc_seq (wc_region (wl_ok (r_fieldAddr Fld83x0 rfl) (wl_ok (r_ldB h 5 rfl One3 rfl rfl) (wl_ok (r_ldB h 2 rfl One3 rfl rfl) (wl_ok (r_eql rfl rfl) (wl_ok (r_assign (v := (.bool (decide ((x9.id_ : Int) = b)))) rfl) (wl_nil (then_normal (wc_ret (fin1 (v := (.bool (decide ((x9.id_ : Int) = b)))) Tryd.results76 rfl (⟨_, rfl, ?_⟩))))))))))))))))))))
   refine wl_nil (then_normal (wc_ifb hs rfl (fun c19 hs => ?_) (fun c19 hs => ?_)))
   ·
    refine wc_seq (wc_region (wl_ok (r_move (v := (.int .i64 (i3))) rfl) (wl_ok (r_assign (v := (.int .i64 (i3))) rfl) (wl_nil (then_normal (wc_ret (inBlock_ret (then_ret (then_ret (inBlock_ret (then_ret (fin1 (v := (.int .i64 (i3))) Tryd.results75 rfl (⟨_, rfl, ?_⟩)))))))))))))
    refine wl_ok (r_assign (v := (.int .i64 (i3))) rfl) (wl_nil (then_normal (wc_ret (fin1 (v := (.int .i64 (i3))) Tryd.results52 rfl ?_))))
    obtain rfl := Option.some.inj hs
    exact ⟨h.grown, rfl⟩
   ·
    refine wc_skip (inBlock_normal (then_normal (wc_region (wl_ok (r_add rfl rfl e8r) (wl_ok (r_move (v := (.int .i64 ((i3 + 1)))) rfl) (wl_nil (then_loop ?_)))))))
    subst hnx6
    exact lend ⟨k2 + 1, i3 + 1⟩ ⟨h.cn _, by omega, hs⟩ (by have := of_decide_eq_true e7; dsimp only; omega)
  ·
   rw [upto_ge (by have := of_decide_eq_false e7; omega)] at hs
   refine wc_exit (then_exit (then_exit (inBlock_eq (then_normal (wc_seq (wc_region (wl_ok (r_assign (v := (.int .i64 (-1))) rfl) (wl_nil (then_normal (wc_ret (fin1 (v := (.int .i64 (-1))) Tryd.results75 rfl (⟨_, rfl, ?_⟩))))))))))))
   refine wl_ok (r_assign (v := (.int .i64 (-1))) rfl) (wl_nil (then_normal (wc_ret (fin1 (v := (.int .i64 (-1))) Tryd.results52 rfl ?_))))
   obtain rfl := Option.some.inj hs
   exact ⟨h.grown, rfl⟩
theorem slices_Insert_Co_c (w0 : World) (M N : BS) (va vb : Value) (a m : List Co) (i : Nat) (ha : OwnSl rCo 83 w0 M va a) (hb : OwnSl rCo 83 w0 N vb m) (hm : m.length = 1) (hN : ∀ b, (M b ∨ ob va b) → b < w0.heap.size → N b ∨ ob vb b) (hap : ∀ b, ob va b → ¬ ob vb b) (hi : i ≤ a.length) (hbig : (a.length + m.length) * 48 ≤ 140737488355328) (hmx : a.length + m.length ≤ 9223372036854775807) :
    Calls Tryd.prog 55 #[va, .int .i64 (i : Int), vb] w0 (fun e w' => ∃ u, e = .returned u ∧ OwnSl rCo 83 w' M u (a.take i ++ m ++ a.drop i) ∧ Keep (ob va) w0 w' ∧ (∀ b, ob u b → b < w0.heap.size → ob va b)) := by
  refine calls_start (args := [va, .int .i64 (i : Int), vb]) Tryd.func55 rfl Tryd.ntmps55 (Nat.le_of_ble_eq_true rfl) ?_
  refine wc_seq (wc_region (wl_ok (r_assign rfl) (wl_nil (then_normal ?_))))
  obtain ⟨u0, hu0, -⟩ := r_sl (P := Tryd.prog) (T := 54) (a := (i : Int)) (b := (a.length : Int)) SliceOf54 ha.src (by omega) (by omega) (by omega)
  refine wc_seq (wc_region (wl_ok (r_move (v := va) rfl) (wl_ok (r_move (v := .int .i64 (i : Int)) rfl) (wl_ok (hu0 _ _ _ _ _ _ _ _ _ _ rfl (.inr rfl) (.inl ⟨rfl, rfl⟩)) (wl_nil (then_normal ?_))))))
  refine wc_seq (wc_region (wl_ok (r_move (v := vb) rfl) (wl_ok (r_len SliceOf54 rfl hb.src) (wl_ok (r_assign (v := .int .i64 (m.length : Int)) rfl) (wl_nil (then_normal ?_))))))
  refine wc_seq (wc_seq (wc_region (wl_ok (r_move (v := .int .i64 (m.length : Int)) rfl) (wl_ok (r_eql (p := (m.length : Int)) (q := 0) rfl rfl) (wl_nil (then_normal ?_))))))
  refine wc_if rfl (fun c => absurd (of_decide_eq_true c) (by omega)) (fun _ => wc_skip (then_normal ?_))
  refine wc_seq (wc_region (wl_ok (r_move (v := va) rfl) (wl_ok (r_len SliceOf54 rfl ha.src) (wl_ok (r_assign (v := .int .i64 (a.length : Int)) rfl) (wl_nil (then_normal ?_))))))
  refine wc_seq (wc_seq (wc_region (wl_ok (r_move (v := .int .i64 (i : Int)) rfl) (wl_ok (r_move (v := .int .i64 (a.length : Int)) rfl) (wl_ok (r_eql (p := (i : Int)) (q := (a.length : Int)) rfl rfl) (wl_nil (then_normal ?_)))))))
  refine wc_if rfl (fun c => ?_) (fun c => ?_)
  · have hin : i = a.length := by have := of_decide_eq_true c; omega
    refine wc_seq (wc_region (wl_ok (r_move (v := va) rfl) (wl_ok (r_move (v := vb) rfl) ?_)))
    refine wl_appO (A := fun b => M b ∨ ob va b) ElemOf54 rfl (OwnSl.go ha (Keep.refl BE _) (fun _ h => h.elim) (fun _ h => h.elim) (fun b hb _ => hb)) (hb.srcO.sub (fun _ h _ => h) hN) rfl rfl (fun b hb => .inr hb) hbig hmx fun w u h1 h2 h3 => ?_
    refine wl_ok (r_assign (v := u) rfl) (wl_nil (then_normal (wc_ret (then_ret ?_))))
    refine fin1 (v := u) Tryd.results55 rfl ?_
    refine ⟨_, rfl, ?_, h2, h3⟩
    rw [hin, List.take_length, List.drop_length, List.append_nil]
    exact OwnSl.go h1 (Keep.refl BE _) (fun _ h => h.elim) (fun _ h => h.elim) (fun b hb _ => .inl (.inl hb))
  · have hin : i < a.length := by have := of_decide_eq_false c; omega
    obtain ⟨gg, cap, cur, rfl, hraw0, hcap, hrd⟩ := own_raw ha (by omega)
    obtain ⟨bb, cb, curb, rfl, hrawb, hcapb, hrdb⟩ := own_raw hb (by omega)
    have hcm := hraw0.le
    unfold maxLen at hcm
    obtain ⟨x, rfl⟩ : ∃ x, m = [x] := by
      cases m with
      | nil => cases hm
      | cons x m => cases m with
        | nil => exact ⟨x, rfl⟩
        | cons y m => simp at hm
    have hxr : rCo.rd w0 (fun b => N b ∨ b = bb) (curb.take 4) x := by have h := hrdb 0 (by simp); rw [Nat.zero_mul, List.drop_zero] at h; exact h
    have hne : gg ≠ bb := fun e => hap gg (by simp [ob]) (by simp [ob, e])
    have hggl := lt_of_blk hraw0.blk
    have hbbl := lt_of_blk hrawb.blk
    have hlen := hraw0.len
    have hcl : a.length * 4 ≤ cur.length := by rw [hlen]; exact Nat.mul_le_mul_right _ hcap
    have hil : i * 4 + 4 ≤ a.length * 4 := by rw [← Nat.succ_mul]; exact Nat.mul_le_mul_right _ hin
    have hsub : (a.length - i) * 4 = a.length * 4 - i * 4 := Nat.sub_mul _ _ _
    have hxl := rCo.len hxr
    have hxl2 : (curb.take 4).length = 4 := hxl
    have hD : ((cur.drop (i * 4)).take ((a.length - i) * 4)).length = (a.length - i) * 4 := by rw [List.length_take, List.length_drop]; omega
    have hD1 := rd_ones hrd (j := i) (m := a.length - i) (by omega)
    have hN' : ∀ b, (M b ∨ b = gg) → b < w0.heap.size → N b ∨ b = bb := fun b hb hl => hN b (hb.imp id (fun hb => by simpa [ob] using hb)) hl
    refine wc_skip (then_normal ?_)
    refine wc_seq (wc_seq (wc_region (wl_ok (r_move (v := .int .i64 (a.length : Int)) rfl) (wl_ok (r_move (v := .int .i64 ([x].length : Int)) rfl) (wl_ok (r_add (p := (a.length : Int)) (q := ([x].length : Int)) rfl rfl (by simp only [List.length_singleton]; omega)) (wl_ok (r_move (v := .slice (some ⟨gg, 0, none⟩) a.length cap) rfl) (wl_ok (r_cap SliceOf54 rfl) (wl_ok (r_gtr (p := ((a.length : Int) + ([x].length : Int))) (q := (cap : Int)) rfl rfl) (wl_nil (then_normal ?_))))))))))
    refine wc_if rfl (fun c2 => ?_) (fun c2 => ?_)
    · have hgr : cap < a.length + 1 := by have := of_decide_eq_true c2; simp at this; omega
      refine wc_seq (wc_region ?_)
      refine wl_ok (r_move (v := .slice (some ⟨gg, 0, none⟩) a.length cap) rfl) (wl_ok (r_move (v := .int .i64 (i : Int)) rfl) (wl_ok (r_sliceTo (b := i) (ad := some ⟨gg, 0, none⟩) (len := a.length) (cap := cap) SliceOf54 rfl (.inr ⟨gg, rfl⟩) (.inl ⟨rfl, rfl⟩) rfl (by omega)) ?_))
      refine wl_ok (r_move (v := .int .i64 (a.length : Int)) rfl) (wl_ok (r_move (v := .int .i64 ([x].length : Int)) rfl) (wl_ok (r_add (p := (a.length : Int)) (q := ([x].length : Int)) rfl rfl (by simp only [List.length_singleton]; omega)) ?_))
      refine wl_ok (r_move (v := .int .i64 (i : Int)) rfl) (wl_ok (r_sub (p := ((a.length : Int) + ([x].length : Int))) (q := (i : Int)) rfl rfl (by simp only [List.length_singleton]; omega)) ?_)
      refine wl_growRaw (gg := gg) (cap := cap) (a := i) (k := a.length + 1 - i) ElemOf54 Tryd.underlying3 hraw0 rfl (congrArg (Value.int .i64) (by simp only [List.length_singleton]; omega)) (by decide) (by omega) (by omega) (by omega) (by simp only [List.length_singleton] at hbig; rw [show i + (a.length + 1 - i) = a.length + 1 by omega]; exact hbig) (by unfold maxLen; simp only [List.length_singleton] at hmx; omega) fun w g2 cap2 cur2 hk1 hg2 hcap2 hraw2 htk => ?_
      rw [show i + (a.length + 1 - i) = a.length + 1 by omega] at hcap2 ⊢
      have hne2 : g2 ≠ bb := by omega
      have hne3 : g2 ≠ gg := by omega
      have hl2 := hraw2.len
      have hc2l : (a.length + 1) * 4 ≤ cap2 * 4 := Nat.mul_le_mul_right _ hcap2
      rw [Nat.succ_mul] at hc2l
      refine wl_ok (r_assign (v := .slice (some ⟨g2, 0, none⟩) (a.length + 1) cap2) rfl) (wl_nil (then_normal ?_))
      refine wc_seq (wc_region ?_)
      refine wl_ok (r_move (v := .slice (some ⟨g2, 0, none⟩) (a.length + 1) cap2) rfl) (wl_ok (r_move (v := .int .i64 (i : Int)) rfl) (wl_ok (r_sliceRaw (gg := g2) (a := i) (b := a.length + 1) (m := cap2) (len := a.length + 1) (cap := cap2) SliceOf54 rfl (.inr rfl) (.inl ⟨rfl, rfl⟩) (.inl ⟨rfl, rfl⟩) (by omega) (by omega) (by omega)) ?_))
      refine wl_ok (r_move (v := .slice (some ⟨bb, 0, none⟩) [x].length cb) rfl) ?_
      have hrawb1 := hrawb.keep hk1 (fun h => h)
      refine wl_copyRaw (gg := g2) (cap := cap2) (o := i) (dl := a.length + 1 - i) (dc := cap2 - i) (m := [x].length) (c := cb) (ad := ⟨bb, 0, none⟩) (news := curb.take 4) ElemOf54 hraw2 (congrArg (fun z => Value.slice (some z) (a.length + 1 - i) (cap2 - i)) (if_neg (by omega))) rfl (by rw [show Nat.min [x].length (a.length + 1 - i) = 1 from Nat.min_eq_left (by simp; omega), Nat.one_mul]; exact hxl2) (fun j u hj => row_cells hrawb1 0 4 j u (by simpa using hj)) (rCo.one hxr) (by rw [show Nat.min [x].length (a.length + 1 - i) = 1 from Nat.min_eq_left (by simp; omega)]; omega) fun w hk2 hraw3 => ?_
      refine wl_nil (then_normal ?_)
      have hK1 : Keep (fun y => y = gg) w0 w := hk1.keep.step hk2 (fun y hy hl => by omega)
      refine wc_seq (wc_tail0 8 mixed (by kernel_rfl) fun w hk3 => ?_)
      have hK2 : Keep (fun y => y = gg) w0 w := hK1.step hk3 (fun _ h => h.elim)
      have hraw3' := hraw3.keep hk3 (fun h => h)
      have hrawg : Raw w gg cap 4 83 cur := ((hraw0.keep hk1 (fun h => h)).keep hk2 (fun h => hne3 h.symm)).keep hk3 (fun h => h)
      refine wk_ok (r_move (v := .slice (some ⟨g2, 0, none⟩) (a.length + 1) cap2) rfl) (wk_ok (r_move (v := .int .i64 (i : Int)) rfl) (wk_ok (r_move (v := .int .i64 ([x].length : Int)) rfl) (wk_ok (r_add (p := (i : Int)) (q := ([x].length : Int)) rfl rfl (by simp only [List.length_singleton]; omega)) ?_)))
      refine wk_ok (r_sliceRaw (gg := g2) (a := i + 1) (b := a.length + 1) (m := cap2) (len := a.length + 1) (cap := cap2) SliceOf54 rfl (.inr rfl) (.inl ⟨rfl, rfl⟩) (.inl ⟨rfl, rfl⟩) (by omega) (by omega) (by omega)) ?_
      refine wk_ok (r_move (v := .slice (some ⟨gg, 0, none⟩) a.length cap) rfl) (wk_ok (r_move (v := .int .i64 (i : Int)) rfl) ?_)
      refine wk_ok (r_sliceRaw (gg := gg) (a := i) (b := a.length) (m := cap) (len := a.length) (cap := cap) SliceOf54 rfl (.inr rfl) (.inl ⟨rfl, rfl⟩) (.inl ⟨rfl, rfl⟩) (by omega) (by omega) (by omega)) (wk_go ?_)
      refine wl_copyRaw (gg := g2) (cap := cap2) (o := i + 1) (dl := a.length + 1 - (i + 1)) (dc := cap2 - (i + 1)) (m := a.length - i) (c := cap - i) (ad := ⟨gg, i * 4, none⟩) (news := (cur.drop (i * 4)).take ((a.length - i) * 4)) ElemOf54 hraw3' (congrArg (fun z => Value.slice (some z) (a.length + 1 - (i + 1)) (cap2 - (i + 1))) (if_neg (by omega))) (congrArg (fun z => Value.slice (some z) (a.length - i) (cap - i)) (if_neg (by omega))) (by rw [show Nat.min (a.length - i) (a.length + 1 - (i + 1)) = a.length - i from Nat.min_eq_left (by omega)]; exact hD) (row_cells hrawg (i * 4) ((a.length - i) * 4)) hD1 (by rw [show Nat.min (a.length - i) (a.length + 1 - (i + 1)) = a.length - i from Nat.min_eq_left (by omega)]; omega) fun w hk4 hraw4 => ?_
      refine wl_nil (then_normal (wc_seq (wc_region (wl_ok (r_move (v := .slice (some ⟨g2, 0, none⟩) (a.length + 1) cap2) rfl) (wl_ok (r_assign (v := .slice (some ⟨g2, 0, none⟩) (a.length + 1) cap2) rfl) (wl_nil (then_normal (wc_ret (then_ret ?_)))))))))
      have hK3 : Keep (fun y => y = gg) w0 w := hK2.step hk4 (fun y hy hl => by have : y = g2 := hy; omega)
      refine fin1 (v := .slice (some ⟨g2, 0, none⟩) (a.length + 1) cap2) Tryd.results55 rfl ?_
      refine ⟨_, rfl, raw_ins hraw4 hK3 (fun h => by omega) (by omega) hcap2 hcl hrd hxr hN' hggl ?_, hK3.weaken (fun y hy _ => by simp [ob]; exact hy), fun b hb hl => by simp [ob] at hb; omega⟩
      have hm1 : (i + 1) * 4 = i * 4 + 4 := Nat.succ_mul _ _
      have hq : ((cur2.take (i * 4) ++ curb.take 4 ++ cur2.drop (i * 4 + (curb.take 4).length))).length = cap2 * 4 := hraw3.len
      rw [hm1]
      show List.take (i * 4 + 4 + (a.length - i) * 4) _ = List.take (i * 4) cur ++ curb.take 4 ++ List.take ((a.length - i) * 4) (List.drop (i * 4) cur)
      refine (ins_l2 (by rw [hq]; omega) hD).trans ?_
      rw [hxl2, ins_l1 hxl2 (by omega), htk]
    · have hroom : a.length + 1 ≤ cap := by have := of_decide_eq_false c2; simp at this; omega
      have hc2l : (a.length + 1) * 4 ≤ cap * 4 := Nat.mul_le_mul_right _ hroom
      rw [Nat.succ_mul] at hc2l
      have hm1 : (i + 1) * 4 = i * 4 + 4 := Nat.succ_mul _ _
      refine wc_skip (then_normal ?_)
      refine wc_seq (wc_region ?_)
      refine wl_ok (r_move (v := .slice (some ⟨gg, 0, none⟩) a.length cap) rfl) (wl_ok (r_move (v := .int .i64 (a.length : Int)) rfl) (wl_ok (r_move (v := .int .i64 ([x].length : Int)) rfl) (wl_ok (r_add (p := (a.length : Int)) (q := ([x].length : Int)) rfl rfl (by simp only [List.length_singleton]; omega)) ?_)))
      refine wl_ok (r_sliceTo (b := a.length + 1) (ad := some ⟨gg, 0, none⟩) (len := a.length) (cap := cap) SliceOf54 rfl (.inr ⟨gg, rfl⟩) (.inl ⟨rfl, rfl⟩) rfl (by omega)) (wl_ok (r_assign (v := .slice (some ⟨gg, 0, none⟩) (a.length + 1) cap) rfl) (wl_nil (then_normal ?_)))
      refine wc_seq (wc_seq (wc_region ?_))
      refine wl_ok (r_move (v := .slice (some ⟨bb, 0, none⟩) [x].length cb) rfl) (wl_ok (r_move (v := .slice (some ⟨gg, 0, none⟩) (a.length + 1) cap) rfl) (wl_ok (r_move (v := .int .i64 (i : Int)) rfl) (wl_ok (r_move (v := .int .i64 ([x].length : Int)) rfl) (wl_ok (r_add (p := (i : Int)) (q := ([x].length : Int)) rfl rfl (by simp only [List.length_singleton]; omega)) ?_))))
      refine wl_ok (r_sliceRaw (gg := gg) (a := i + 1) (b := a.length + 1) (m := cap) (len := a.length + 1) (cap := cap) SliceOf54 rfl (.inr rfl) (.inl ⟨rfl, rfl⟩) (.inl ⟨rfl, rfl⟩) (by omega) (by omega) (by omega)) ?_
      refine wl_overlaps (g1 := bb) (g2 := gg) (o1 := 0) (o2 := (i + 1) * 4) (m1 := [x].length) (k1 := cb) (m2 := a.length + 1 - (i + 1)) (k2 := cap - (i + 1)) Over78 ElemOf54 hrawb.blk hraw0 (fun e => hne e.symm) (by omega) rfl (la_cons rfl (la_cons (congrArg (fun z => Value.slice (some z) (a.length + 1 - (i + 1)) (cap - (i + 1))) (if_neg (by omega))) rfl)) ?_
      refine wl_ok (r_notb rfl) (wl_nil (then_normal ?_))
      refine wc_ift rfl ?_
      refine wc_seq (wc_tail0 8 mixed (by kernel_rfl) fun w hk1 => ?_)
      have hraw1 := hraw0.keep hk1 (fun h => h)
      have hrawb1 := hrawb.keep hk1 (fun h => h)
      have hK1 : Keep (fun y => y = gg) w0 w := hk1.keep
      refine wk_ok (r_move (v := .slice (some ⟨gg, 0, none⟩) (a.length + 1) cap) rfl) (wk_ok (r_move (v := .int .i64 (i : Int)) rfl) (wk_ok (r_move (v := .int .i64 ([x].length : Int)) rfl) (wk_ok (r_add (p := (i : Int)) (q := ([x].length : Int)) rfl rfl (by simp only [List.length_singleton]; omega)) ?_)))
      refine wk_ok (r_sliceRaw (gg := gg) (a := i + 1) (b := a.length + 1) (m := cap) (len := a.length + 1) (cap := cap) SliceOf54 rfl (.inr rfl) (.inl ⟨rfl, rfl⟩) (.inl ⟨rfl, rfl⟩) (by omega) (by omega) (by omega)) ?_
      refine wk_ok (r_move (v := .slice (some ⟨gg, 0, none⟩) (a.length + 1) cap) rfl) (wk_ok (r_move (v := .int .i64 (i : Int)) rfl) ?_)
      refine wk_ok (r_sliceRaw (gg := gg) (a := i) (b := a.length + 1) (m := cap) (len := a.length + 1) (cap := cap) SliceOf54 rfl (.inr rfl) (.inl ⟨rfl, rfl⟩) (.inl ⟨rfl, rfl⟩) (by omega) (by omega) (by omega)) (wk_go ?_)
      refine wl_copyRaw (gg := gg) (cap := cap) (o := i + 1) (dl := a.length + 1 - (i + 1)) (dc := cap - (i + 1)) (m := a.length + 1 - i) (c := cap - i) (ad := ⟨gg, i * 4, none⟩) (news := (cur.drop (i * 4)).take ((a.length - i) * 4)) ElemOf54 hraw1 (congrArg (fun z => Value.slice (some z) (a.length + 1 - (i + 1)) (cap - (i + 1))) (if_neg (by omega))) (congrArg (fun z => Value.slice (some z) (a.length + 1 - i) (cap - i)) (if_neg (by omega))) (by rw [show Nat.min (a.length + 1 - i) (a.length + 1 - (i + 1)) = a.length - i from (Nat.min_eq_right (by omega)).trans (by omega)]; exact hD) (row_cells hraw1 (i * 4) ((a.length - i) * 4)) hD1 (by rw [show Nat.min (a.length + 1 - i) (a.length + 1 - (i + 1)) = a.length - i from (Nat.min_eq_right (by omega)).trans (by omega)]; omega) fun w hk2 hraw2 => ?_
      have hK2 : Keep (fun y => y = gg) w0 w := hK1.step hk2 (fun _ h _ => h)
      have hrawb2 := hrawb1.keep hk2 (fun h => hne h.symm)
      refine wl_nil (then_normal (wc_seq (wc_region ?_)))
      refine wl_ok (r_move (v := .slice (some ⟨gg, 0, none⟩) (a.length + 1) cap) rfl) (wl_ok (r_move (v := .int .i64 (i : Int)) rfl) ?_)
      refine wl_ok (r_sliceRaw (gg := gg) (a := i) (b := a.length + 1) (m := cap) (len := a.length + 1) (cap := cap) SliceOf54 rfl (.inr rfl) (.inl ⟨rfl, rfl⟩) (.inl ⟨rfl, rfl⟩) (by omega) (by omega) (by omega)) ?_
      refine wl_ok (r_move (v := .slice (some ⟨bb, 0, none⟩) [x].length cb) rfl) ?_
      refine wl_copyRaw (gg := gg) (cap := cap) (o := i) (dl := a.length + 1 - i) (dc := cap - i) (m := [x].length) (c := cb) (ad := ⟨bb, 0, none⟩) (news := curb.take 4) ElemOf54 hraw2 (congrArg (fun z => Value.slice (some z) (a.length + 1 - i) (cap - i)) (if_neg (by omega))) rfl (by rw [show Nat.min [x].length (a.length + 1 - i) = 1 from Nat.min_eq_left (by simp; omega), Nat.one_mul]; exact hxl2) (fun j u hj => row_cells hrawb2 0 4 j u (by simpa using hj)) (rCo.one hxr) (by rw [show Nat.min [x].length (a.length + 1 - i) = 1 from Nat.min_eq_left (by simp; omega)]; omega) fun w hk3 hraw3 => ?_
      have hK3 : Keep (fun y => y = gg) w0 w := hK2.step hk3 (fun _ h _ => h)
      refine wl_nil (then_normal (wc_seq (wc_region (wl_ok (r_move (v := .slice (some ⟨gg, 0, none⟩) (a.length + 1) cap) rfl) (wl_ok (r_assign (v := .slice (some ⟨gg, 0, none⟩) (a.length + 1) cap) rfl) (wl_nil (then_normal (wc_ret (then_ret ?_)))))))))
      refine fin1 (v := .slice (some ⟨gg, 0, none⟩) (a.length + 1) cap) Tryd.results55 rfl ?_
      refine ⟨_, rfl, raw_ins hraw3 hK3 (fun _ => rfl) (by omega) hroom hcl hrd hxr hN' hggl ?_, hK3, fun b hb _ => hb⟩
      show List.take (i * 4 + 4 + (a.length - i) * 4) _ = List.take (i * 4) cur ++ curb.take 4 ++ List.take ((a.length - i) * 4) (List.drop (i * 4) cur)
      rw [hxl2, hm1]
      exact ins_l3 hxl2 (by omega) hD
theorem slices_Delete_Co_c (w0 : World) (M : BS) (va : Value) (a : List Co) (i j : Nat) (ha : OwnSl rCo 83 w0 M va a) (hij : i < j) (hj : j ≤ a.length) :
    Calls Tryd.prog 56 #[va, .int .i64 (i : Int), .int .i64 (j : Int)] w0 (fun e w' => ∃ u, e = .returned u ∧ OwnSl rCo 83 w' M u (a.take i ++ a.drop j) ∧ Keep (ob va) w0 w' ∧ (∀ b, ob u b → b < w0.heap.size → ob va b)) := by
  obtain ⟨gg, cap, cur, rfl, hraw0, hcap, hrd⟩ := own_raw ha (by omega)
  refine calls_start (args := [.slice (some ⟨gg, 0, none⟩) a.length cap, .int .i64 (i : Int), .int .i64 (j : Int)]) Tryd.func56 rfl Tryd.ntmps56 (Nat.le_of_ble_eq_true rfl) ?_
  refine wc_seq (wc_region (wl_ok (r_assign rfl) (wl_nil (then_normal ?_))))
  refine wc_seq (wc_region ?_)
  refine wl_ok (r_move (v := .slice (some ⟨gg, 0, none⟩) a.length cap) rfl) (wl_ok (r_move (v := .int .i64 (i : Int)) rfl) (wl_ok (r_move (v := .int .i64 (j : Int)) rfl) (wl_ok (r_move (v := .slice (some ⟨gg, 0, none⟩) a.length cap) rfl) ?_)))
  refine wl_ok (r_len_slice (a := some ⟨gg, 0, none⟩) (l := a.length) (c := cap) SliceOf54 rfl) ?_
  refine wl_ok (r_sliceRaw (gg := gg) (a := i) (b := j) (m := a.length) (len := a.length) (cap := cap) SliceOf54 rfl (.inr rfl) (.inr rfl) (.inr ⟨rfl, rfl⟩) (by omega) (by omega) (by omega)) (wl_nil (then_normal ?_))
  refine wc_seq (wc_seq (wc_region ?_))
  refine wl_ok (r_move (v := .int .i64 (i : Int)) rfl) (wl_ok (r_move (v := .int .i64 (j : Int)) rfl) (wl_ok (r_eql (p := (i : Int)) (q := (j : Int)) rfl rfl) (wl_nil (then_normal ?_))))
  refine wc_if rfl (fun c => absurd (of_decide_eq_true c) (by omega)) (fun _ => wc_skip (then_normal ?_))
  refine wc_seq (wc_region ?_)
  refine wl_ok (r_move (v := .slice (some ⟨gg, 0, none⟩) a.length cap) rfl) (wl_ok (r_len_slice (a := some ⟨gg, 0, none⟩) (l := a.length) (c := cap) SliceOf54 rfl) (wl_ok (r_assign (v := .int .i64 (a.length : Nat)) rfl) (wl_nil (then_normal ?_))))
  refine wc_seq (wc_tail0 6 mixed (by kernel_rfl) fun w hk => ?_)
  have hraw := hraw0.keep hk (fun h => h)
  have hK : Keep (fun x => x = gg) w0 w := hk.keep
  refine wk_ok (r_move (v := .slice (some ⟨gg, 0, none⟩) a.length cap) rfl) (wk_ok (r_move (v := .int .i64 (i : Int)) rfl) ?_)
  refine wk_ok (r_sliceTo (b := i) (ad := some ⟨gg, 0, none⟩) (len := a.length) (cap := cap) SliceOf54 rfl (.inr ⟨gg, rfl⟩) (.inl ⟨rfl, rfl⟩) rfl (by omega)) ?_
  refine wk_ok (r_move (v := .slice (some ⟨gg, 0, none⟩) a.length cap) rfl) (wk_ok (r_move (v := .int .i64 (j : Int)) rfl) ?_)
  refine wk_ok (r_sliceRaw (gg := gg) (a := j) (b := a.length) (m := cap) (len := a.length) (cap := cap) SliceOf54 rfl (.inr rfl) (.inl ⟨rfl, rfl⟩) (.inl ⟨rfl, rfl⟩) (by omega) (by omega) (by omega)) (wk_go ?_)
  refine wl_rawAppend (gg := gg) (cap := cap) (a := i) (m := a.length - j) (c := cap - j) (j := j) (ad := if cap = j then ⟨gg, 0, none⟩ else ⟨gg, j * 4, none⟩) ElemOf54 hraw rfl rfl (if hcj : cap = j then .inl (by omega) else .inr (if_neg hcj)) (by omega) (by omega) (rd_ones hrd (by omega)) ?_
  intro w hk2 hraw2
  replace hK := hK.step hk2 (fun x hx _ => hx)
  refine wl_ok (r_assign (v := .slice (some ⟨gg, 0, none⟩) (i + (a.length - j)) cap) rfl) (wl_nil (then_normal ?_))
  refine wc_seq (wc_region ?_)
  refine wl_ok (r_move (v := .slice (some ⟨gg, 0, none⟩) (i + (a.length - j)) cap) rfl) (wl_ok (r_move (v := .slice (some ⟨gg, 0, none⟩) (i + (a.length - j)) cap) rfl) ?_)
  refine wl_ok (r_len_slice (a := some ⟨gg, 0, none⟩) (l := i + (a.length - j)) (c := cap) SliceOf54 rfl) (wl_ok (r_move (v := .int .i64 (a.length : Nat)) rfl) ?_)
  refine wl_ok (r_sliceRaw (gg := gg) (a := i + (a.length - j)) (b := a.length) (m := cap) (len := i + (a.length - j)) (cap := cap) SliceOf54 rfl (.inr rfl) (.inr rfl) (.inl ⟨rfl, rfl⟩) (by omega) (by omega) (by omega)) ?_
  refine wl_clearRaw (gg := gg) (cap := cap) (m := i + (a.length - j)) (k := a.length - (i + (a.length - j))) (c := cap - (i + (a.length - j))) ElemOf54 ZeroOne83 hraw2 (congrArg (fun z => Value.slice (some z) (a.length - (i + (a.length - j))) (cap - (i + (a.length - j)))) (if_neg (by omega))) (by omega) (by omega) ?_
  intro w cur3 hk3 hraw3 hcur3
  replace hK := hK.step hk3 (fun x hx _ => hx)
  refine wl_nil (then_normal (wc_seq (wc_region ?_)))
  refine wl_ok (r_move (v := .slice (some ⟨gg, 0, none⟩) (i + (a.length - j)) cap) rfl) (wl_ok (r_assign (v := .slice (some ⟨gg, 0, none⟩) (i + (a.length - j)) cap) rfl) (wl_nil (then_normal (wc_ret ?_))))
  refine fin1 (v := .slice (some ⟨gg, 0, none⟩) (i + (a.length - j)) cap) Tryd.results56 rfl ?_
  refine ⟨_, rfl, raw_del hraw3 hraw0 hK (by omega) (by omega) hcap hrd ?_, hK, fun b hb _ => hb⟩
  exact hcur3.trans (del_len hraw0.len (by omega) hj hcap)
def place_Next_j27 (x23 : Int) (nx28 : Int → Option (List Co × Int)) (b : Rec) (y8 : List Co) (x31 : Bool) : Option (List Co × Int) :=
  bif x31 then grd (I64 (x23 + 1)) (nx28 (x23 + 1)) else (clone 8 b.image).bind fun yq37x8_1 => grd (Room 48 y8 [(⟨b.co, b.epoch, yq37x8_1, -1⟩ : Co)]) ((ins1 y8 x23 [(⟨b.co, b.epoch, yq37x8_1, -1⟩ : Co)]).bind fun yq37x11_2 => some (yq37x11_2, 0))
def place_Next_b28 (y8 : List Co) (b : Rec) (x23 : Int) (nx28 : Int → Option (List Co × Int)) : Option (List Co × Int) :=
  bif decide ((x23 : Int) < (y8.length : Int)) then (idx y8 x23).bind fun x41 => place_Next_j27 x23 nx28 b y8 (decide ((x41.id_ : Int) < b.co)) else place_Next_j27 x23 nx28 b y8 false
def place_Next_j30 (b : Rec) (y8 : List Co) (y14 : Int) (x52 : Co) (x57 : Bool) : Option (List Co × Int) :=
  bif x57 then some ([], 7) else bif decide ((b.kind : Int) = 2) then (clone 8 b.image).bind fun y60 => some ((y8.set (y14).toNat { x52 with image := y60 }), 0) else bif decide ((b.kind : Int) = 3) then bif decide ((x52.epoch : Int) = 100) then some ([], 2) else some ((y8.set (y14).toNat { x52 with offered := b.place }), 0) else bif decide ((b.kind : Int) = 5) then grd (I64 (y14 + 1)) ((del1 y8 y14 (y14 + 1)).bind fun y75 => some (y75, 0)) else some (y8, 0)
def place_Next (N : Nat) (a : List Co) (b : Rec) : Option (List Co × Int) :=
  (place_Check a).bind fun y2 => bif decide ((y2 : Int) ≠ 0) then some ([], y2) else bif decide (((record_Check b) : Int) ≠ 0) then some ([], (record_Check b)) else (place_Copy a).bind fun y8 => (place_Find y8 b.co).bind fun y14 => bif (decide ((b.kind : Int) = 1) || decide ((b.kind : Int) = 4)) then bif decide ((0 : Int) ≤ y14) then some ([], 6) else bif ((decide ((b.kind : Int) = 1) && decide ((b.epoch : Int) ≠ 1)) || (decide ((b.kind : Int) = 4) && decide ((b.epoch : Int) = 1))) then some ([], 7) else again (place_Next_b28 y8 b) N 0 else bif decide ((y14 : Int) < 0) then some ([], 5) else (idx y8 y14).bind fun x52 => bif decide ((x52.epoch : Int) ≠ b.epoch) then place_Next_j30 b y8 y14 x52 true else place_Next_j30 b y8 y14 x52 (decide ((b.kind : Int) = 5) != decide ((0 : Int) ≤ x52.offered))
theorem place_Next_c (N : Nat) (w0 : World) (M : BS) (hM : ∀ b, M b → b < w0.heap.size) (va : Value) (a : List Co) (ha : Rd2 rCo w0 BE M va a) (b : Rec) (vb4 vb5 : Value) (hb4 : Rd2 rInt w0 BE M vb4 b.says) (hb5 : Rd2 rInt w0 BE M vb5 b.image) (r : List Co × Int) (hs : place_Next N a b = some r) :
    Calls Tryd.prog 34 #[va, (.agg #[(.int .i64 (b.kind)), (.int .i64 (b.co)), (.int .i64 (b.epoch)), (.int .i64 (b.place)), vb4, vb5])] w0 (fun e w' => Grow w0 w' ∧ ∃ u0, e = .returned (.tuple #[u0, .int .i64 r.2]) ∧ OwnSl rCo 83 w' M u0 r.1 ∧ (∀ b, ob u0 b → w0.heap.size ≤ b)) := by
 refine calls_start (args := [va, (.agg #[(.int .i64 (b.kind)), (.int .i64 (b.co)), (.int .i64 (b.epoch)), (.int .i64 (b.place)), vb4, vb5])]) Tryd.func34 rfl Tryd.ntmps34 (Nat.le_of_ble_eq_true rfl) ?_
 have h := SH.init hM
 replace h := h.argSr 1 ha none_own
 replace h := h.argSr 2 hb4 (hupd_own_sr none_own)
 replace h := h.argSr 3 hb5 (hupd_own_sr (hupd_own_sr none_own))
 have hl_a := ha.len_le
 refine wc_seq (wc_region (w_box (cs := [(.int .i64 (b.kind)), (.int .i64 (b.co)), (.int .i64 (b.epoch)), (.int .i64 (b.place)), vb4, vb5]) h 4 rfl rfl fun w b1 h => wl_ok (r_assign (v := (.slice none 0 0)) rfl) (wl_ok (r_assign (v := (.int .i64 (0))) rfl) (wl_nil (then_normal (wc_seq (wc_seq (wc_region (wl_ok (r_move (v := va) rfl) ?_)))))))))
 obtain ⟨y2, e3, hs⟩ := o_bind hs
 refine w_call fnOk53 rfl rfl (place_Check_c _ _ h.lt va a (h.srS 1 rfl) _ e3) ?_
 rintro _ w ⟨k4, rfl⟩
 refine ⟨_, rfl, ?_⟩
 replace h := h.grow k4
 refine wl_ok (r_assign (v := (.int .i64 (y2))) rfl) (wl_nil (then_normal (wc_seq (wc_region (wl_ok (r_move (v := (.int .i64 (y2))) rfl) (wl_ok (r_neq rfl rfl) (wl_nil (then_normal (wc_ifb hs rfl (fun c5 hs => ?_) (fun c5 hs => ?_))))))))))
 ·
  refine wc_seq (wc_region (wl_ok (r_move (v := (.int .i64 (y2))) rfl) (wl_ok (r_assign (v := (.slice none 0 0)) rfl) (wl_ok (r_assign (v := (.int .i64 (y2))) rfl) (wl_nil (then_normal (wc_ret (then_ret (fin2 (v1 := (.slice none 0 0)) (v2 := (.int .i64 (y2))) Tryd.results34 rfl rfl ?_)))))))))
  obtain rfl := Option.some.inj hs
  exact ⟨h.grown, _, rfl, OwnSl.nil, fresh_nil⟩
 ·
  refine wc_skip (then_normal (wc_seq (wc_seq (wc_region (wl_ok (r_ldBN (vs := [(.int .i64 (b.kind)), (.int .i64 (b.co)), (.int .i64 (b.epoch)), (.int .i64 (b.place)), vb4, vb5]) h 4 rfl Many24 rfl rfl rfl) (w_call fnOk13 rfl rfl (record_Check_c _ _ h.lt b vb4 vb5 (h.srS 2 rfl) (h.srS 3 rfl) _ rfl) ?_))))))
  rintro _ w ⟨k6, rfl⟩
  refine ⟨_, rfl, ?_⟩
  replace h := h.grow k6
  refine wl_ok (r_assign (v := (.int .i64 ((record_Check b)))) rfl) (wl_nil (then_normal (wc_seq (wc_region (wl_ok (r_move (v := (.int .i64 ((record_Check b)))) rfl) (wl_ok (r_neq rfl rfl) (wl_nil (then_normal (wc_ifb hs rfl (fun c7 hs => ?_) (fun c7 hs => ?_))))))))))
  ·
   refine wc_seq (wc_region (wl_ok (r_move (v := (.int .i64 ((record_Check b)))) rfl) (wl_ok (r_assign (v := (.slice none 0 0)) rfl) (wl_ok (r_assign (v := (.int .i64 ((record_Check b)))) rfl) (wl_nil (then_normal (wc_ret (then_ret (fin2 (v1 := (.slice none 0 0)) (v2 := (.int .i64 ((record_Check b)))) Tryd.results34 rfl rfl ?_)))))))))
   obtain rfl := Option.some.inj hs
   exact ⟨h.grown, _, rfl, OwnSl.nil, fresh_nil⟩
  ·
   refine wc_skip (then_normal (wc_seq (wc_region (wl_ok (r_move (v := va) rfl) ?_))))
   obtain ⟨y8, e9, hs⟩ := o_bind hs
   refine w_call fnOk54 rfl rfl (place_Copy_c _ _ h.lt va a (h.srS 1 rfl) _ e9) ?_
   rintro _ w ⟨k13, u10, rfl, g11, g12⟩
   refine ⟨_, rfl, ?_⟩
   replace h := h.gotOwn 5 k13 g11 g12
   refine wl_ok (r_assign (v := u10) rfl) (wl_nil (then_normal (wc_seq (wc_region (wl_ok (r_move (v := u10) rfl) (wl_ok (r_fieldAddr Fld24x1 rfl) (wl_ok (r_ldB h 4 rfl One3 rfl rfl) ?_)))))))
   obtain ⟨y14, e15, hs⟩ := o_bind hs
   refine w_call fnOk52 rfl rfl (place_Find_c _ _ h.lt u10 y8 (h.ownS 5 rfl) b.co _ e15) ?_
   rintro _ w ⟨k16, rfl⟩
   refine ⟨_, rfl, ?_⟩
   replace h := h.grow k16
   refine wl_ok (r_assign (v := (.int .i64 (y14))) rfl) (wl_nil (then_normal (wc_seq (wc_seq (wc_region (wl_ok (r_fieldAddr Fld24x0 rfl) (wl_ok (r_ldB h 4 rfl One3 rfl rfl) (wl_ok (r_eql rfl rfl) (wl_ok (r_move (v := (.bool (decide ((b.kind : Int) = 1)))) rfl) (wl_gd0 rfl rfl (fun q => r_fieldAddr Fld24x0 rfl) (wl_gd0 rfl rfl (fun q => r_ldB h 4 rfl One3 (gvt q) rfl) (wl_gd0 rfl rfl (fun q => r_eql (gvt q) rfl) (wl_ok (r_por rfl rfl evc) (wl_nil (then_normal (wc_ifb hs rfl (fun c17 hs => ?_) (fun c17 hs => ?_)))))))))))))))))
   ·
    refine wc_seq (wc_seq (wc_region (wl_ok (r_move (v := (.int .i64 (y14))) rfl) (wl_ok (r_geq rfl rfl) (wl_nil (then_normal (wc_ifb hs rfl (fun c18 hs => ?_) (fun c18 hs => ?_))))))))
    ·
     refine wc_seq (wc_region (wl_ok (r_assign (v := (.slice none 0 0)) rfl) (wl_ok (r_assign (v := (.int .i64 (6))) rfl) (wl_nil (then_normal (wc_ret (then_ret (then_ret (fin2 (v1 := (.slice none 0 0)) (v2 := (.int .i64 (6))) Tryd.results34 rfl rfl ?_)))))))))
     obtain rfl := Option.some.inj hs
     exact ⟨h.grown, _, rfl, OwnSl.nil, fresh_nil⟩
    ·
     refine wc_skip (then_normal (wc_seq (wc_seq (wc_region (wl_ok (r_fieldAddr Fld24x0 rfl) (wl_ok (r_ldB h 4 rfl One3 rfl rfl) (wl_ok (r_eql rfl rfl) (wl_ok (r_move (v := (.bool (decide ((b.kind : Int) = 1)))) rfl) (wl_gd0 rfl rfl (fun q => r_fieldAddr Fld24x2 rfl) (wl_gd0 rfl rfl (fun q => r_ldB h 4 rfl One3 (gvt q) rfl) (wl_gd0 rfl rfl (fun q => r_neq (gvt q) rfl) (wl_ok (r_pand rfl rfl evc) (wl_ok (r_move (v := (.bool ((decide ((b.kind : Int) = 1) && decide ((b.epoch : Int) ≠ 1))))) rfl) (wl_gd0 rfl rfl (fun q => r_fieldAddr Fld24x0 rfl) (wl_gd0 rfl rfl (fun q => r_ldB h 4 rfl One3 (gvt q) rfl) (wl_gd0 rfl rfl (fun q => r_eql (gvt q) rfl) (wl_gd0 rfl rfl (fun q => r_move (v := (.bool (decide ((b.kind : Int) = 4)))) (gvt q)) (wl_gd ((decide ((b.kind : Int) = 1) && decide ((b.epoch : Int) ≠ 1)) == false) rfl rfl (fun q => r_fieldAddr Fld24x2 rfl) (wl_gd ((decide ((b.kind : Int) = 1) && decide ((b.epoch : Int) ≠ 1)) == false) rfl rfl (fun q => r_ldB h 4 rfl One3 (gvt q) rfl) (wl_gd ((decide ((b.kind : Int) = 1) && decide ((b.epoch : Int) ≠ 1)) == false) rfl rfl (fun q => r_eql (gvt q) rfl) (wl_gd0 rfl rfl (fun q => r_pand (gvt q) (gvn q) evc) (wl_ok (r_por rfl rfl evc) (wl_nil ?_)))))))))))))))))))))))
     refine then_normal (wc_ifb hs rfl (fun c19 hs => ?_) (fun c19 hs => ?_))
     ·
      refine wc_seq (wc_region (wl_ok (r_assign (v := (.slice none 0 0)) rfl) (wl_ok (r_assign (v := (.int .i64 (7))) rfl) (wl_nil (then_normal (wc_ret (then_ret (then_ret (fin2 (v1 := (.slice none 0 0)) (v2 := (.int .i64 (7))) Tryd.results34 rfl rfl ?_)))))))))
      obtain rfl := Option.some.inj hs
      exact ⟨h.grown, _, rfl, OwnSl.nil, fresh_nil⟩
     ·
      refine wc_skip (then_normal (wc_seq (wc_region (wl_ok (r_assign (v := (.int .i64 (0))) rfl) (wl_nil (then_normal (wc_seq (wc_block (wc_lp (σ := Nat × Int) (inl [9, 55, 56, 57, 58, 59, 60, 61, 62, 63, 64, 65, 66, 67, 68, 69, 70]) (fun ⟨m27, x23⟩ => [(9, (.int .i64 (x23)))]) (fun ⟨m27, x23⟩ w => SH w0 M BE w (hset [(2, .sr rInt vb4 b.says), (3, .sr rInt vb5 b.image), (4, .blk b1 [(.int .i64 (b.kind)), (.int .i64 (b.co)), (.int .i64 (b.epoch)), (.int .i64 (b.place)), vb4, vb5]), (5, .own rCo 83 u10 y8)]) ∧ again (place_Next_b28 y8 b) m27 x23 = some r) (fun ⟨m27, x23⟩ => m27) ⟨N, 0⟩ ⟨rfl, trivial⟩ ?_ ?_)))))))))
      ·
       exact ⟨h.cn _, hs⟩
      ·
       rintro ⟨m27, x23⟩ w junk ⟨h, hs⟩
       obtain ⟨m271, m27e, m27h⟩ := again_pos hs
       subst m27e
       replace hs := m27h
       generalize hnx28 : again (place_Next_b28 y8 b) m271 = nx28 at hs
       refine wc_seq (wc_join (σ := Bool) (inl [55, 56, 57, 58, 59, 60, 61, 62, 63, 64, 65, 66, 67, 68]) (fun x31 => [(68, (.bool (x31)))]) (fun x31 w => SH w0 M BE w (hset [(2, .sr rInt vb4 b.says), (3, .sr rInt vb5 b.image), (4, .blk b1 [(.int .i64 (b.kind)), (.int .i64 (b.co)), (.int .i64 (b.epoch)), (.int .i64 (b.place)), vb4, vb5]), (5, .own rCo 83 u10 y8)]) ∧ place_Next_j27 x23 nx28 b y8 x31 = some r) ?_ ?_)
       ·
        rintro x31 w junk ⟨h, hs⟩
        refine wc_ifb hs rfl (fun c32 hs => ?_) (fun c32 hs => ?_)
        ·
         refine wc_skip (then_normal (wc_block (wc_region (wl_ok (r_move (v := (.int .i64 (x23))) rfl) ?_))))
         obtain ⟨a33, hs⟩ := o_grd hs
         refine wl_ok (r_add rfl rfl a33) (wl_ok (r_assign (v := (.int .i64 ((x23 + 1)))) rfl) (wl_nil (inBlock_normal (then_loop ?_))))
         subst hnx28
         exact lend ⟨m271, (x23 + 1)⟩ ⟨h.cn _, hs⟩
        ·
         refine wc_exit (then_exit (then_exit (inBlock_eq (then_normal (wc_seq (wck_held (L := (ob u10)) mixed h fun w h => whk_ok 0 (Keep.refl _ _) rfl want_none (by kernel_rfl) (by kernel_rfl) (by kernel_rfl) (fun w hk => r_move (v := u10) rfl) (whk_ok 1 (Keep.refl _ _) rfl want_none (by kernel_rfl) (by kernel_rfl) (by kernel_rfl) (fun w hk => r_move (v := (.int .i64 (x23))) rfl) (whk_ok 2 (Keep.refl _ _) rfl want_none (by kernel_rfl) (by kernel_rfl) (by kernel_rfl) (fun w hk => r_fieldAddr Fld24x1 rfl) (whk_ok 3 (Keep.refl _ _) rfl want_none (by kernel_rfl) (by kernel_rfl) (by kernel_rfl) (fun w hk => have h := h.loseC 5 rfl hk; r_ldB h 4 rfl One3 rfl rfl) (whk_ok 4 (Keep.refl _ _) rfl want_none (by kernel_rfl) (by kernel_rfl) (by kernel_rfl) (fun w hk => r_fieldAddr Fld24x2 rfl) (whk_ok 5 (Keep.refl _ _) rfl want_none (by kernel_rfl) (by kernel_rfl) (by kernel_rfl) (fun w hk => have h := h.loseC 5 rfl hk; r_ldB h 4 rfl One3 rfl rfl) (whk_ok 6 (Keep.refl _ _) rfl want_none (by kernel_rfl) (by kernel_rfl) (by kernel_rfl) (fun w hk => r_fieldAddr Fld24x5 rfl) (whk_ok 7 (Keep.refl _ _) rfl want_none (by kernel_rfl) (by kernel_rfl) (by kernel_rfl) (fun w hk => have h := h.loseC 5 rfl hk; r_ldB h 4 rfl One22 rfl rfl) ?_)))))))))))))
         obtain ⟨ws38, ws38e⟩ : ∃ x, x = w := ⟨_, rfl⟩
         have hg39 : Keep (ob u10) ws38 w := ws38e ▸ Keep.refl (ob u10) w
         refine whk_at ws38e.symm (whk_eff 8 (by kernel_rfl) rfl want_none ?_)
         obtain ⟨yq37x8_1, eq37x8_2, hs⟩ := o_bind hs
         refine w_call fnOk42 rfl rfl (slices_Clone_int_c _ _ h.lt vb5 b.image (h.srS 3 rfl) _ eq37x8_2) ?_
         rintro _ w ⟨kq37x8_6, uq37x8_3, rfl, gq37x8_4, gq37x8_5⟩
         refine ⟨_, rfl, ?_⟩
         replace h := h.gotOwn 102 kq37x8_6 gq37x8_4 gq37x8_5
         have uq37x8_3q : ∀ b, ob uq37x8_3 b → ws38.heap.size ≤ b := fun b hb => Nat.le_trans hg39.size (gq37x8_5 b hb)
         replace hg39 := hg39.grow kq37x8_6
         refine wl_nil (whk_back hg39 (whk_ok 9 hg39 rfl want_none (by kernel_rfl) (by kernel_rfl) (by kernel_rfl) (fun w hk => r_build (pv := [(0, (.int .i64 (b.co))), (1, (.int .i64 (b.epoch))), (2, uq37x8_3), (3, (.int .i64 (-1)))]) (out := [(.int .i64 (b.co)), (.int .i64 (b.epoch)), uq37x8_3, (.int .i64 (-1))]) Struct83 rfl ⟨0, 1, [(.int .i64 (b.co))], rfl, rfl, rfl, Nat.le_of_ble_eq_true rfl, ⟨1, 1, [(.int .i64 (b.epoch))], rfl, rfl, rfl, Nat.le_of_ble_eq_true rfl, ⟨2, 1, [uq37x8_3], rfl, (toList_of_one (h.ownAt 102 rfl).one), rfl, Nat.le_of_ble_eq_true rfl, ⟨3, 1, [(.int .i64 (-1))], rfl, rfl, rfl, Nat.le_of_ble_eq_true rfl, rfl⟩⟩⟩⟩) (whk_eff 10 (by kernel_rfl) rfl want_none ?_)))
         replace h := h.freeze 102 rfl
         refine w_bsG (R := rCo) (vs := [(.agg #[(.int .i64 (b.co)), (.int .i64 (b.epoch)), uq37x8_3, (.int .i64 (-1))])]) (xs := [(⟨b.co, b.epoch, yq37x8_1, -1⟩ : Co)]) h 126 ElemOf54 rfl rfl rfl ⟨⟨_, rfl, (h.rdAt 102 rfl)⟩, trivial⟩ rfl fun w uq37x10_1 h uq37x10_1k uq37x10_1f => ?_
         have uq37x10_1q : ∀ b, ob uq37x10_1 b → ws38.heap.size ≤ b := fun b hb => Nat.le_trans hg39.size (uq37x10_1f b hb)
         replace hg39 := hg39.grow uq37x10_1k
         refine wl_nil (whk_back hg39 (whk_eff 11 (by kernel_rfl) rfl want_none ?_))
         obtain ⟨aq37x11_1, hs⟩ := o_grd hs
         obtain ⟨yq37x11_2, eq37x11_3, hs⟩ := o_bind hs
         obtain ⟨nq37x11_5, eq37x11_3a, eq37x11_3b, eq37x11_3c⟩ := o_ins eq37x11_3
         have zq37x11_6 := hg39.size
         refine w_call fnOk55 rfl (la_cons rfl (la_cons (congrArg (Value.int .i64) eq37x11_3a) rfl)) (slices_Insert_Co_c _ _ _ u10 uq37x10_1 y8 [(⟨b.co, b.epoch, yq37x8_1, -1⟩ : Co)] nq37x11_5 (h.giveO 5 rfl) (h.giveO 126 rfl) rfl (ins_av h (by decide) rfl rfl) (h.apart 5 126 (by decide)) eq37x11_3b aq37x11_1.1 aq37x11_1.2) ?_
         rintro _ w ⟨uq37x11_4, rfl, eq37x11_3f, eq37x11_3g, eq37x11_3h⟩
         refine ⟨_, rfl, ?_⟩
         replace h := h.given 5 rfl eq37x11_3f eq37x11_3g eq37x11_3h
         replace hg39 := hg39.same eq37x11_3g
         rw [← eq37x11_3c] at h
         refine wl_nil (whk_back hg39 (whk_ok 12 hg39 rfl want_none (by kernel_rfl) (by kernel_rfl) (by kernel_rfl) (fun w hk => r_assign (v := uq37x11_4) rfl) (whk_ok 13 hg39 rfl want_none (by kernel_rfl) (by kernel_rfl) (by kernel_rfl) (fun w hk => r_assign (v := (.int .i64 (0))) rfl) (whk_done (by kernel_rfl) (then_normal (wc_ret (then_ret (fin2 (v1 := uq37x11_4) (v2 := (.int .i64 (0))) Tryd.results34 rfl rfl ?_))))))))
         obtain rfl := Option.some.inj hs
         exact ⟨h.grown, _, rfl, (h.outOwn 5 rfl).1, (h.outOwn 5 rfl).2⟩
       ·
        refine wc_still mixed (by kernel_rfl) h fun w h => wk_ok (r_move (v := (.int .i64 (x23))) rfl) (wk_ok (r_move (v := u10) rfl) (wk_ok (r_len SliceOf54 rfl (h.ownS 5 rfl)) (wk_ok (r_lss rfl rfl) (wk_ok (r_move (v := (.bool (decide ((x23 : Int) < (y8.length : Int))))) rfl) (c_split (b := decide ((x23 : Int) < (y8.length : Int))) hs (fun c40 hs => ?_) (fun c40 hs => ?_))))))
        ·
         refine wk_on rfl (congrArg Value.bool c40) (wk_ok (r_move (v := u10) rfl) (wk_on rfl (congrArg Value.bool c40) (wk_ok (r_move (v := (.int .i64 (x23))) rfl) (wk_on rfl (congrArg Value.bool c40) ?_))))
         obtain ⟨x41, e42, hs⟩ := o_bind hs
         obtain ⟨b44, q45, i43⟩ := h.ixO 5 rfl SliceOf54 rfl (o_idx e42).1 (o_idx e42).2
         refine wk_ok (i43 _ _ _ _ _ _ _ _ _ rfl rfl) (wk_on rfl (congrArg Value.bool c40) (wk_ok (r_fieldAddr Fld83x0 rfl) (wk_on rfl (congrArg Value.bool c40) ?_)))
         obtain ⟨cs46, m47, r48⟩ := h.elO 5 rfl q45 (o_idx e42).2
         obtain ⟨u49, rfl, g50⟩ := rCo_open r48
         replace h := h.knowRd 186 g50
         refine wk_ok (r_ldA (k := 0) m47 One3 rfl rfl) (wk_on rfl (congrArg Value.bool c40) (wk_ok (r_fieldAddr Fld24x1 rfl) (wk_on rfl (congrArg Value.bool c40) (wk_ok (r_ldB h 4 rfl One3 rfl rfl) (wk_on rfl (congrArg Value.bool c40) (wk_ok (r_lss rfl rfl) (wk_ok (r_pick (b := true) (v := (.bool (decide ((x41.id_ : Int) < b.co)))) (congrArg Value.bool c40) rfl) (wk_end (then_loop ?_)))))))))
         exact jend (decide ((x41.id_ : Int) < b.co)) ⟨h.cn _, hs⟩
        ·
         refine wk_off (b' := false) rfl (congrArg Value.bool c40) rfl (wk_off (b' := false) rfl (congrArg Value.bool c40) rfl (wk_off (b' := false) rfl (congrArg Value.bool c40) rfl (wk_off (b' := false) rfl (congrArg Value.bool c40) rfl (wk_off (b' := false) rfl (congrArg Value.bool c40) rfl (wk_off (b' := false) rfl (congrArg Value.bool c40) rfl (wk_off (b' := false) rfl (congrArg Value.bool c40) rfl (wk_off (b' := false) rfl (congrArg Value.bool c40) rfl (wk_ok (r_pick (b := false) (v := (.bool (false))) (congrArg Value.bool c40) rfl) (wk_end (then_loop ?_))))))))))
         exact jend false ⟨h.cn _, hs⟩
   ·
    refine wc_skip (then_normal (wc_seq (wc_seq (wc_region (wl_ok (r_move (v := (.int .i64 (y14))) rfl) (wl_ok (r_lss rfl rfl) (wl_nil (then_normal (wc_ifb hs rfl (fun c51 hs => ?_) (fun c51 hs => ?_))))))))))
    ·
     refine wc_seq (wc_region (wl_ok (r_assign (v := (.slice none 0 0)) rfl) (wl_ok (r_assign (v := (.int .i64 (5))) rfl) (wl_nil (then_normal (wc_ret (then_ret (fin2 (v1 := (.slice none 0 0)) (v2 := (.int .i64 (5))) Tryd.results34 rfl rfl ?_))))))))
     obtain rfl := Option.some.inj hs
     exact ⟨h.grown, _, rfl, OwnSl.nil, fresh_nil⟩
    ·
     refine wc_skip (then_normal (wc_seq (wc_region (wl_ok (r_move (v := u10) rfl) (wl_ok (r_move (v := (.int .i64 (y14))) rfl) ?_)))))
     obtain ⟨x52, e53, hs⟩ := o_bind hs
     obtain ⟨b55, q56, i54⟩ := h.ixO 5 rfl SliceOf54 rfl (o_idx e53).1 (o_idx e53).2
     refine wl_ok (i54 _ _ _ _ _ _ _ _ _ rfl rfl) (wl_ok (r_assign (v := (.pointer (some ⟨b55, (y14).toNat * 4, none⟩))) rfl) (wl_nil (then_normal (wc_seq (wc_join (σ := Bool) (inl [88, 89, 90, 91, 92, 93, 94, 95, 96, 97, 98, 99, 100, 101, 102, 103, 104, 105]) (fun x57 => [(105, (.bool (x57)))]) (fun x57 w => SH w0 M BE w (hset [(2, .sr rInt vb4 b.says), (3, .sr rInt vb5 b.image), (4, .blk b1 [(.int .i64 (b.kind)), (.int .i64 (b.co)), (.int .i64 (b.epoch)), (.int .i64 (b.place)), vb4, vb5]), (5, .own rCo 83 u10 y8)]) ∧ place_Next_j30 b y8 y14 x52 x57 = some r) ?_ ?_)))))
     ·
      rintro x57 w junk ⟨h, hs⟩
      refine wc_ifb hs rfl (fun c58 hs => ?_) (fun c58 hs => ?_)
      ·
       refine wc_seq (wc_region (wl_ok (r_assign (v := (.slice none 0 0)) rfl) (wl_ok (r_assign (v := (.int .i64 (7))) rfl) (wl_nil (then_normal (wc_ret (then_ret (fin2 (v1 := (.slice none 0 0)) (v2 := (.int .i64 (7))) Tryd.results34 rfl rfl ?_))))))))
       obtain rfl := Option.some.inj hs
       exact ⟨h.grown, _, rfl, OwnSl.nil, fresh_nil⟩
      ·
       refine wc_skip (then_normal (wc_seq (wc_seq (wc_region (wl_ok (r_fieldAddr Fld24x0 rfl) (wl_ok (r_ldB h 4 rfl One3 rfl rfl) (wl_nil (then_normal (wc_block (wc_seq (wc_region (wl_ok (r_eql rfl rfl) (wl_ok (r_assign (v := (.bool (decide ((b.kind : Int) = 2)))) rfl) (wl_nil (then_normal (wc_ifb hs rfl (fun c59 hs => ?_) (fun c59 hs => ?_)))))))))))))))))
       ·
        refine wc_region (wl_ok (r_move (v := (.pointer (some ⟨b55, (y14).toNat * 4, none⟩))) rfl) (wl_ok (r_fieldAddr Fld24x5 rfl) (wl_ok (r_ldB h 4 rfl One22 rfl rfl) ?_)))
        obtain ⟨y60, e61, hs⟩ := o_bind hs
        refine w_call fnOk42 rfl rfl (slices_Clone_int_c _ _ h.lt vb5 b.image (h.srS 3 rfl) _ e61) ?_
        rintro _ w ⟨k65, u62, rfl, g63, g64⟩
        refine ⟨_, rfl, ?_⟩
        replace h := h.gotOwn 187 k65 g63 g64
        refine wl_ok (r_nilCheck rfl) (wl_ok (r_fieldAddr Fld83x2 rfl) ?_)
        replace h := h.freeze 187 rfl
        refine w_stO (a' := { x52 with image := y60 }) h 5 rfl q56 rfl (o_idx e53).2 One22 rfl rfl (h.rdAt 187 rfl).one rfl (by rintro _ hq; obtain ⟨p2, rfl, q2⟩ := rCo_open hq; exact ⟨_, rfl, (h.rdAt 187 rfl)⟩) fun w h => wl_nil (inBlock_normal (then_normal (wc_seq (wc_region (wl_ok (r_move (v := u10) rfl) (wl_ok (r_assign (v := u10) rfl) (wl_ok (r_assign (v := (.int .i64 (0))) rfl) (wl_nil (then_normal (wc_ret (fin2 (v1 := u10) (v2 := (.int .i64 (0))) Tryd.results34 rfl rfl ?_)))))))))))
        obtain rfl := Option.some.inj hs
        exact ⟨h.grown, _, rfl, (h.outOwn 5 rfl).1, (h.outOwn 5 rfl).2⟩
       ·
        refine wc_seq (wc_region (wl_ok (r_eql rfl rfl) (wl_ok (r_assign (v := (.bool (decide ((b.kind : Int) = 3)))) rfl) (wl_nil (then_normal (wc_ifb hs rfl (fun c66 hs => ?_) (fun c66 hs => ?_)))))))
        ·
         refine wc_seq (wc_seq (wc_region (wl_ok (r_move (v := (.pointer (some ⟨b55, (y14).toNat * 4, none⟩))) rfl) (wl_ok (r_nilCheck rfl) (wl_ok (r_fieldAddr Fld83x1 rfl) ?_)))))
         obtain ⟨cs67, m68, r69⟩ := h.elO 5 rfl q56 (o_idx e53).2
         obtain ⟨u70, rfl, g71⟩ := rCo_open r69
         replace h := h.knowRd 188 g71
         refine wl_ok (r_ldA (k := 1) m68 One3 rfl rfl) (wl_ok (r_eql rfl rfl) (wl_nil (then_normal (wc_ifb hs rfl (fun c72 hs => ?_) (fun c72 hs => ?_)))))
         ·
          refine wc_seq (wc_region (wl_ok (r_assign (v := (.slice none 0 0)) rfl) (wl_ok (r_assign (v := (.int .i64 (2))) rfl) (wl_nil (then_normal (wc_ret (then_ret (inBlock_ret (then_ret (fin2 (v1 := (.slice none 0 0)) (v2 := (.int .i64 (2))) Tryd.results34 rfl rfl ?_))))))))))
          obtain rfl := Option.some.inj hs
          exact ⟨h.grown, _, rfl, OwnSl.nil, fresh_nil⟩
         ·
          refine wc_skip (then_normal (wc_region (wl_ok (r_move (v := (.pointer (some ⟨b55, (y14).toNat * 4, none⟩))) rfl) (wl_ok (r_fieldAddr Fld24x3 rfl) (wl_ok (r_ldB h 4 rfl One3 rfl rfl) (wl_ok (r_nilCheck rfl) (wl_ok (r_fieldAddr Fld83x3 rfl) (w_stO (a' := { x52 with offered := b.place }) h 5 rfl q56 rfl (o_idx e53).2 One3 rfl rfl rfl rfl (by rintro _ hq; obtain ⟨p2, rfl, q2⟩ := rCo_open hq; exact ⟨_, rfl, q2⟩) fun w h => wl_nil (inBlock_normal (then_normal (wc_seq (wc_region (wl_ok (r_move (v := u10) rfl) (wl_ok (r_assign (v := u10) rfl) (wl_ok (r_assign (v := (.int .i64 (0))) rfl) (wl_nil (then_normal (wc_ret (fin2 (v1 := u10) (v2 := (.int .i64 (0))) Tryd.results34 rfl rfl ?_)))))))))))))))))))
          obtain rfl := Option.some.inj hs
          exact ⟨h.grown, _, rfl, (h.outOwn 5 rfl).1, (h.outOwn 5 rfl).2⟩
        ·
         refine wc_seq (wc_region (wl_ok (r_eql rfl rfl) (wl_ok (r_assign (v := (.bool (decide ((b.kind : Int) = 5)))) rfl) (wl_nil (then_normal (wc_ifb hs rfl (fun c73 hs => ?_) (fun c73 hs => ?_)))))))
         ·
          refine wc_region (wl_ok (r_move (v := u10) rfl) (wl_ok (r_move (v := (.int .i64 (y14))) rfl) (wl_ok (r_move (v := (.int .i64 (y14))) rfl) ?_)))
          obtain ⟨a74, hs⟩ := o_grd hs
          refine wl_ok (r_add rfl rfl a74) ?_
          obtain ⟨y75, e76, hs⟩ := o_bind hs
          obtain ⟨n78, n79, e76a, e76b, e76c, e76d, e76e⟩ := o_del e76
          refine w_call fnOk56 rfl (la_cons rfl (la_cons (congrArg (Value.int .i64) e76a) (la_cons (congrArg (Value.int .i64) e76b) rfl))) (slices_Delete_Co_c _ _ u10 y8 n78 n79 (h.giveO 5 rfl) e76c e76d) ?_
          rintro _ w ⟨u77, rfl, e76f, e76g, e76h⟩
          refine ⟨_, rfl, ?_⟩
          replace h := h.given 5 rfl e76f e76g e76h
          rw [← e76e] at h
          refine wl_ok (r_assign (v := u77) rfl) (wl_nil (inBlock_normal (then_normal (wc_seq (wc_region (wl_ok (r_move (v := u77) rfl) (wl_ok (r_assign (v := u77) rfl) (wl_ok (r_assign (v := (.int .i64 (0))) rfl) (wl_nil (then_normal (wc_ret (fin2 (v1 := u77) (v2 := (.int .i64 (0))) Tryd.results34 rfl rfl ?_))))))))))))
          obtain rfl := Option.some.inj hs
          exact ⟨h.grown, _, rfl, (h.outOwn 5 rfl).1, (h.outOwn 5 rfl).2⟩
         ·
          refine wc_skip (inBlock_normal (then_normal (wc_seq (wc_region (wl_ok (r_move (v := u10) rfl) (wl_ok (r_assign (v := u10) rfl) (wl_ok (r_assign (v := (.int .i64 (0))) rfl) (wl_nil (then_normal (wc_ret (fin2 (v1 := u10) (v2 := (.int .i64 (0))) Tryd.results34 rfl rfl ?_)))))))))))
          obtain rfl := Option.some.inj hs
          exact ⟨h.grown, _, rfl, (h.outOwn 5 rfl).1, (h.outOwn 5 rfl).2⟩
     ·
      refine wc_still mixed (by kernel_rfl) h fun w h => wk_ok (r_move (v := (.pointer (some ⟨b55, (y14).toNat * 4, none⟩))) rfl) (wk_ok (r_nilCheck rfl) (wk_ok (r_fieldAddr Fld83x1 rfl) ?_))
      obtain ⟨cs80, m81, r82⟩ := h.elO 5 rfl q56 (o_idx e53).2
      obtain ⟨u83, rfl, g84⟩ := rCo_open r82
      replace h := h.knowRd 189 g84
      refine wk_ok (r_ldA (k := 1) m81 One3 rfl rfl) (wk_ok (r_fieldAddr Fld24x2 rfl) (wk_ok (r_ldB h 4 rfl One3 rfl rfl) (wk_ok (r_neq rfl rfl) (wk_ok (r_move (v := (.bool (decide ((x52.epoch : Int) ≠ b.epoch)))) rfl) (c_split (b := decide ((x52.epoch : Int) ≠ b.epoch)) hs (fun c85 hs => ?_) (fun c85 hs => ?_))))))
      ·
       refine wk_off (b' := true) rfl (congrArg Value.bool c85) rfl (wk_off (b' := true) rfl (congrArg Value.bool c85) rfl (wk_off (b' := true) rfl (congrArg Value.bool c85) rfl (wk_off (b' := true) rfl (congrArg Value.bool c85) rfl (wk_off (b' := true) rfl (congrArg Value.bool c85) rfl (wk_off (b' := true) rfl (congrArg Value.bool c85) rfl (wk_off (b' := true) rfl (congrArg Value.bool c85) rfl (wk_off (b' := true) rfl (congrArg Value.bool c85) rfl (wk_off (b' := true) rfl (congrArg Value.bool c85) rfl (wk_ok (r_pick (b := true) (v := (.bool (true))) (congrArg Value.bool c85) rfl) (wk_end (then_loop ?_)))))))))))
       exact jend true ⟨h.cn _, hs⟩
      ·
       refine wk_on rfl (congrArg Value.bool c85) (wk_ok (r_fieldAddr Fld24x0 rfl) (wk_on rfl (congrArg Value.bool c85) (wk_ok (r_ldB h 4 rfl One3 rfl rfl) (wk_on rfl (congrArg Value.bool c85) (wk_ok (r_eql rfl rfl) (wk_on rfl (congrArg Value.bool c85) (wk_ok (r_move (v := (.pointer (some ⟨b55, (y14).toNat * 4, none⟩))) rfl) (wk_on rfl (congrArg Value.bool c85) (wk_ok (r_nilCheck rfl) (wk_on rfl (congrArg Value.bool c85) (wk_ok (r_fieldAddr Fld83x3 rfl) (wk_on rfl (congrArg Value.bool c85) ?_))))))))))))
       obtain ⟨cs86, m87, r88⟩ := h.elO 5 rfl q56 (o_idx e53).2
       obtain ⟨u89, rfl, g90⟩ := rCo_open r88
       replace h := h.knowRd 190 g90
       refine wk_ok (r_ldA (k := 3) m87 One3 rfl rfl) (wk_on rfl (congrArg Value.bool c85) (wk_ok (r_geq rfl rfl) (wk_on rfl (congrArg Value.bool c85) (wk_ok (r_neqb Tryd.underlying4 rfl rfl) (wk_ok (r_pick (b := false) (v := (.bool ((decide ((b.kind : Int) = 5) != decide ((0 : Int) ≤ x52.offered))))) (congrArg Value.bool c85) rfl) (wk_end (then_loop ?_)))))))
       exact jend (decide ((b.kind : Int) = 5) != decide ((0 : Int) ≤ x52.offered)) ⟨h.cn _, hs⟩
def place_Replay_b3 (N : Nat) (x12 : Rec) (x9 : List Co) (nx14 : List Co → Option (List Co × Int)) : Option (List Co × Int) :=
  (place_Next N x9 x12).bind fun y27 => bif decide ((y27.2 : Int) ≠ 0) then some ([], y27.2) else nx14 y27.1
def place_Replay_k4 (x9 : List Co) : Option (List Co × Int) :=
  some (x9, 0)
def place_Replay (N : Nat) (a : List Rec) : Option (List Co × Int) :=
  bif decide ((120 : Int) < (a.length : Int)) then some ([], 2) else each (place_Replay_b3 N) place_Replay_k4 a []
theorem place_Replay_c (N : Nat) (w0 : World) (M : BS) (hM : ∀ b, M b → b < w0.heap.size) (va : Value) (a : List Rec) (ha : Rd2 rRec w0 BE M va a) (r : List Co × Int) (hs : place_Replay N a = some r) :
    Calls Tryd.prog 32 #[va] w0 (fun e w' => Grow w0 w' ∧ ∃ u0, e = .returned (.tuple #[u0, .int .i64 r.2]) ∧ OwnSl rCo 83 w' M u0 r.1 ∧ (∀ b, ob u0 b → w0.heap.size ≤ b)) := by
 refine calls_start (args := [va]) Tryd.func32 rfl Tryd.ntmps32 (Nat.le_of_ble_eq_true rfl) ?_
 have h := SH.init hM
 replace h := h.argSr 1 ha none_own
 have hl_a := ha.len_le
 refine wc_seq (wc_region (wl_ok (r_assign (v := (.slice none 0 0)) rfl) (wl_ok (r_assign (v := (.int .i64 (0))) rfl) (wl_nil (then_normal (wc_seq (wc_seq (wc_region (wl_ok (r_move (v := va) rfl) (wl_ok (r_len SliceOf34 rfl (h.srS 1 rfl)) (wl_ok (r_gtr rfl rfl) (wl_nil (then_normal (wc_ifb hs rfl (fun c1 hs => ?_) (fun c1 hs => ?_)))))))))))))))
 ·
  refine wc_seq (wc_region (wl_ok (r_assign (v := (.slice none 0 0)) rfl) (wl_ok (r_assign (v := (.int .i64 (2))) rfl) (wl_nil (then_normal (wc_ret (then_ret (fin2 (v1 := (.slice none 0 0)) (v2 := (.int .i64 (2))) Tryd.results32 rfl rfl ?_))))))))
  obtain rfl := Option.some.inj hs
  exact ⟨h.grown, _, rfl, OwnSl.nil, fresh_nil⟩
 ·
  refine wc_skip (then_normal (wc_seq (wc_region (wl_ok (r_assign (v := (.slice none 0 0)) rfl) (wl_nil (then_normal (wc_seq (wc_seq (wc_region (wl_ok (r_move (v := va) rfl) (wl_ok (r_len SliceOf34 rfl (h.srS 1 rfl)) (wl_ok (r_move (v := (.int .i64 (0))) rfl) (wl_nil (then_normal (wc_block ?_)))))))))))))))
  replace h := h.nilO (R := rCo) (E := 83) 5
  refine wc_lp (σ := Nat × Int × Value × List Co) (inl [2, 3, 4, 6, 7, 13, 14, 15, 16, 17, 18, 19, 20, 21, 22, 23, 24, 25, 26]) (fun ⟨k10, i11, v8, x9⟩ => [(4, v8), (13, (.int .i64 (i11)))]) (fun ⟨k10, i11, v8, x9⟩ w => SH w0 M BE w (hset [(1, .sr rRec va a), (5, .own rCo 83 v8 x9)]) ∧ i11 = (k10 : Int) ∧ each (place_Replay_b3 N) place_Replay_k4 (a.drop k10) x9 = some r) (fun ⟨k10, i11, v8, x9⟩ => a.length - k10) ⟨0, 0, (.slice none 0 0), []⟩ ⟨rfl, rfl, trivial⟩ ?_ ?_
  ·
   exact ⟨h.cn _, rfl, hs⟩
  ·
   rintro ⟨k10, i11, v8, x9⟩ w junk ⟨h, hik, hs⟩
   refine wc_seq (wc_region ?_)
   refine wl_ok (r_lss rfl rfl) (wl_nil (then_normal ?_))
   refine wc_seq (wc_if rfl (fun e15 => ?_) (fun e15 => ?_))
   ·
    refine wc_skip (then_normal ?_)
    obtain ⟨x12, e16a, e16b⟩ := drop_lt (hik ▸ e15)
    rw [e16b, each_cons] at hs
    generalize hnx14 : each (place_Replay_b3 N) place_Replay_k4 (a.drop (k10 + 1)) = nx14 at hs
    have e16r := nat_rng ((h.srS 1 rfl)).len_le hik e15
    refine wc_seq (wc_block (wc_seq (wc_region ?_)))
    obtain ⟨b18, o19, cs20, h, r21, i17⟩ := h.ixS 1 6 rfl SliceOf34 rfl (nat_nn hik) (get_nat hik e16a)
    obtain ⟨u22, u24, rfl, g23, g25⟩ := rRec_open r21
    replace h := h.knowRd 7 g23.up
    replace h := h.knowRd 8 g25.up.up
    refine wl_ok (i17 _ _ _ _ _ _ _ _ _ rfl rfl) (wl_ok (r_ldPN (k := 0) (vs := [(.int .i64 (x12.kind)), (.int .i64 (x12.co)), (.int .i64 (x12.epoch)), (.int .i64 (x12.place)), u22, u24]) h 6 rfl Many24 rfl rfl rfl (Nat.le_of_ble_eq_true rfl)) (w_allocN h 9 Many24 fun w b26 h => w_stN (vs := [(.int .i64 (x12.kind)), (.int .i64 (x12.co)), (.int .i64 (x12.epoch)), (.int .i64 (x12.place)), u22, u24]) h 9 [(.int .i64 (x12.kind)), (.int .i64 (x12.co)), (.int .i64 (x12.epoch)), (.int .i64 (x12.place)), u22, u24] rfl Many24 rfl rfl rfl rfl rfl (ones_cons rfl (ones_cons rfl (ones_cons rfl (ones_cons rfl (ones_cons (h.rdAt 7 rfl).one (ones_cons (h.rdAt 8 rfl).one ones_nil)))))) fun w h => wl_nil (then_normal (wc_seq (wc_region (wl_ok (r_assign (v := (.int .i64 (0))) rfl) (wl_nil (then_normal (wc_seq (wc_region (wl_ok (r_move (v := v8) rfl) (wl_ok (r_ldBN (vs := [(.int .i64 (x12.kind)), (.int .i64 (x12.co)), (.int .i64 (x12.epoch)), (.int .i64 (x12.place)), u22, u24]) h 9 rfl Many24 rfl rfl rfl) ?_))))))))))))
    obtain ⟨y27, e28, hs⟩ := o_bind hs
    refine w_call fnOk34 rfl rfl (place_Next_c N _ _ h.lt v8 x9 (h.ownS 5 rfl) x12 u22 u24 (h.rdS 7 rfl) (h.rdS 8 rfl) _ e28) ?_
    rintro _ w ⟨k32, u29, rfl, g30, g31⟩
    refine ⟨_, rfl, ?_⟩
    replace h := h.gotOwn 10 k32 g30 g31
    refine wl_ok (r_move (v := (.tuple #[u29, (.int .i64 (y27.2))])) rfl) (wl_ok (r_extract rfl rfl) (wl_ok (r_extract rfl rfl) (wl_ok (r_assign (v := u29) rfl) (wl_ok (r_assign (v := (.int .i64 (y27.2))) rfl) (wl_nil (then_normal (wc_seq (wc_region (wl_ok (r_move (v := (.int .i64 (y27.2))) rfl) (wl_ok (r_neq rfl rfl) (wl_nil (then_normal (wc_ifb hs rfl (fun c33 hs => ?_) (fun c33 hs => ?_))))))))))))))
    ·
     refine wc_seq (wc_region (wl_ok (r_move (v := (.int .i64 (y27.2))) rfl) (wl_ok (r_assign (v := (.slice none 0 0)) rfl) (wl_ok (r_assign (v := (.int .i64 (y27.2))) rfl) (wl_nil (then_normal (wc_ret (inBlock_ret (then_ret (then_ret (inBlock_ret (then_ret (fin2 (v1 := (.slice none 0 0)) (v2 := (.int .i64 (y27.2))) Tryd.results32 rfl rfl ?_)))))))))))))
     obtain rfl := Option.some.inj hs
     exact ⟨h.grown, _, rfl, OwnSl.nil, fresh_nil⟩
    ·
     refine wc_skip (inBlock_normal (then_normal (wc_region (wl_ok (r_add rfl rfl e16r) (wl_ok (r_move (v := (.int .i64 ((i11 + 1)))) rfl) (wl_nil (then_loop ?_)))))))
     replace h := (h.dropC 5).moveO 10 5 rfl rfl (by decide)
     subst hnx14
     exact lend ⟨k10 + 1, i11 + 1, u29, y27.1⟩ ⟨h.cn _, by omega, hs⟩ (by have := of_decide_eq_true e15; dsimp only; omega)
   ·
    rw [drop_ge (hik ▸ e15), each_nil] at hs
    refine wc_exit (then_exit (then_exit (inBlock_eq (then_normal (wc_seq (wc_region (wl_ok (r_move (v := v8) rfl) (wl_ok (r_assign (v := v8) rfl) (wl_ok (r_assign (v := (.int .i64 (0))) rfl) (wl_nil (then_normal (wc_ret (fin2 (v1 := v8) (v2 := (.int .i64 (0))) Tryd.results32 rfl rfl ?_)))))))))))))
    obtain rfl := Option.some.inj hs
    exact ⟨h.grown, _, rfl, (h.outOwn 5 rfl).1, (h.outOwn 5 rfl).2⟩
def wandererlaw_held (N : Nat) : Option Bool :=
  (place_Next N [] (⟨1, 1, 1, 0, [], [5]⟩ : Rec)).bind fun y2 => (place_Next N y2.1 (⟨3, 1, 1, 2, [], []⟩ : Rec)).bind fun y8 => (place_Next N y8.1 (⟨2, 1, 1, 0, [], [6]⟩ : Rec)).bind fun y15 => (place_Next N y8.1 (⟨5, 1, 1, 0, [], []⟩ : Rec)).bind fun y21 => bif ((((decide ((y2.2 : Int) = 0) && decide ((y8.2 : Int) = 0)) && decide ((y15.2 : Int) = 7)) && decide ((y21.2 : Int) = 0)) && decide (((y21.1.length : Int) : Int) = 0)) then (place_Find y2.1 1).bind fun y28 => bif decide ((y28 : Int) = 0) then (place_Find y2.1 0).bind fun y32 => bif decide ((y32 : Int) = -1) then (idx y8.1 0).bind fun x36 => some (decide ((x36.offered : Int) = 2)) else some false else some false else some false
theorem wandererlaw_held_c (N : Nat) (w0 : World) (M : BS) (hM : ∀ b, M b → b < w0.heap.size)  (r : Bool) (hs : wandererlaw_held N = some r) :
    Calls Tryd.prog 33 #[] w0 (fun e w' => Grow w0 w' ∧ e = .returned (.bool r)) := by
 refine calls_start (args := []) Tryd.func33 rfl Tryd.ntmps33 (Nat.le_of_ble_eq_true rfl) ?_
 have h := SH.init hM
 refine wc_seq (wc_region (wl_ok (r_assign (v := (.bool (false))) rfl) (wl_nil (then_normal (wc_seq (wc_region (w_bs (R := rInt) (vs := [(.int .i64 (5))]) (xs := [5]) h 1 ElemOf22 rfl rfl rfl ⟨rfl, trivial⟩ rfl fun w u1 h => wl_ok (r_build (pv := [(0, (.int .i64 (1))), (1, (.int .i64 (1))), (2, (.int .i64 (1))), (5, u1)]) (out := [(.int .i64 (1)), (.int .i64 (1)), (.int .i64 (1)), (.int .i64 (0)), (.slice none 0 0), u1]) Struct24 rfl ⟨0, 1, [(.int .i64 (1))], rfl, rfl, rfl, Nat.le_of_ble_eq_true rfl, ⟨1, 1, [(.int .i64 (1))], rfl, rfl, rfl, Nat.le_of_ble_eq_true rfl, ⟨2, 1, [(.int .i64 (1))], rfl, rfl, rfl, Nat.le_of_ble_eq_true rfl, ⟨5, 1, [u1], rfl, (toList_of_one (h.ownAt 1 rfl).one), rfl, Nat.le_of_ble_eq_true rfl, rfl⟩⟩⟩⟩) ?_)))))))
 obtain ⟨y2, e3, hs⟩ := o_bind hs
 refine w_call fnOk34 rfl rfl (place_Next_c N _ _ h.lt (.slice none 0 0) [] Rd2.nil (⟨1, 1, 1, 0, [], [5]⟩ : Rec) (.slice none 0 0) u1 Rd2.nil (h.ownS 1 rfl) _ e3) ?_
 rintro _ w ⟨k7, u4, rfl, g5, g6⟩
 refine ⟨_, rfl, ?_⟩
 replace h := h.gotOwn 2 k7 g5 g6
 refine wl_ok (r_move (v := (.tuple #[u4, (.int .i64 (y2.2))])) rfl) (wl_ok (r_extract rfl rfl) (wl_ok (r_extract rfl rfl) (wl_ok (r_assign (v := u4) rfl) (wl_ok (r_assign (v := (.int .i64 (y2.2))) rfl) (wl_nil (then_normal (wc_seq (wc_region (wl_ok (r_move (v := u4) rfl) (wl_ok (r_build (pv := [(0, (.int .i64 (3))), (1, (.int .i64 (1))), (2, (.int .i64 (1))), (3, (.int .i64 (2)))]) (out := [(.int .i64 (3)), (.int .i64 (1)), (.int .i64 (1)), (.int .i64 (2)), (.slice none 0 0), (.slice none 0 0)]) Struct24 rfl ⟨0, 1, [(.int .i64 (3))], rfl, rfl, rfl, Nat.le_of_ble_eq_true rfl, ⟨1, 1, [(.int .i64 (1))], rfl, rfl, rfl, Nat.le_of_ble_eq_true rfl, ⟨2, 1, [(.int .i64 (1))], rfl, rfl, rfl, Nat.le_of_ble_eq_true rfl, ⟨3, 1, [(.int .i64 (2))], rfl, rfl, rfl, Nat.le_of_ble_eq_true rfl, rfl⟩⟩⟩⟩) ?_))))))))))
 obtain ⟨y8, e9, hs⟩ := o_bind hs
 refine w_call fnOk34 rfl rfl (place_Next_c N _ _ h.lt u4 y2.1 (h.ownS 2 rfl) (⟨3, 1, 1, 2, [], []⟩ : Rec) (.slice none 0 0) (.slice none 0 0) Rd2.nil Rd2.nil _ e9) ?_
 rintro _ w ⟨k13, u10, rfl, g11, g12⟩
 refine ⟨_, rfl, ?_⟩
 replace h := h.gotOwn 3 k13 g11 g12
 refine wl_ok (r_move (v := (.tuple #[u10, (.int .i64 (y8.2))])) rfl) (wl_ok (r_extract rfl rfl) (wl_ok (r_extract rfl rfl) (wl_ok (r_assign (v := u10) rfl) (wl_ok (r_assign (v := (.int .i64 (y8.2))) rfl) (wl_nil (then_normal (wc_seq (wc_region (wl_ok (r_move (v := u10) rfl) (w_bs (R := rInt) (vs := [(.int .i64 (6))]) (xs := [6]) h 4 ElemOf22 rfl rfl rfl ⟨rfl, trivial⟩ rfl fun w u14 h => wl_ok (r_build (pv := [(0, (.int .i64 (2))), (1, (.int .i64 (1))), (2, (.int .i64 (1))), (5, u14)]) (out := [(.int .i64 (2)), (.int .i64 (1)), (.int .i64 (1)), (.int .i64 (0)), (.slice none 0 0), u14]) Struct24 rfl ⟨0, 1, [(.int .i64 (2))], rfl, rfl, rfl, Nat.le_of_ble_eq_true rfl, ⟨1, 1, [(.int .i64 (1))], rfl, rfl, rfl, Nat.le_of_ble_eq_true rfl, ⟨2, 1, [(.int .i64 (1))], rfl, rfl, rfl, Nat.le_of_ble_eq_true rfl, ⟨5, 1, [u14], rfl, (toList_of_one (h.ownAt 4 rfl).one), rfl, Nat.le_of_ble_eq_true rfl, rfl⟩⟩⟩⟩) ?_))))))))))
 obtain ⟨y15, e16, hs⟩ := o_bind hs
 refine w_call fnOk34 rfl rfl (place_Next_c N _ _ h.lt u10 y8.1 (h.ownS 3 rfl) (⟨2, 1, 1, 0, [], [6]⟩ : Rec) (.slice none 0 0) u14 Rd2.nil (h.ownS 4 rfl) _ e16) ?_
 rintro _ w ⟨k20, u17, rfl, g18, g19⟩
 refine ⟨_, rfl, ?_⟩
 replace h := h.gotOwn 5 k20 g18 g19
 refine wl_ok (r_move (v := (.tuple #[u17, (.int .i64 (y15.2))])) rfl) (wl_ok (r_extract rfl rfl) (wl_ok (r_extract rfl rfl) (wl_ok (r_assign (v := u17) rfl) (wl_ok (r_assign (v := (.int .i64 (y15.2))) rfl) (wl_nil (then_normal (wc_seq (wc_region (wl_ok (r_move (v := u10) rfl) (wl_ok (r_build (pv := [(0, (.int .i64 (5))), (1, (.int .i64 (1))), (2, (.int .i64 (1)))]) (out := [(.int .i64 (5)), (.int .i64 (1)), (.int .i64 (1)), (.int .i64 (0)), (.slice none 0 0), (.slice none 0 0)]) Struct24 rfl ⟨0, 1, [(.int .i64 (5))], rfl, rfl, rfl, Nat.le_of_ble_eq_true rfl, ⟨1, 1, [(.int .i64 (1))], rfl, rfl, rfl, Nat.le_of_ble_eq_true rfl, ⟨2, 1, [(.int .i64 (1))], rfl, rfl, rfl, Nat.le_of_ble_eq_true rfl, rfl⟩⟩⟩) ?_))))))))))
 obtain ⟨y21, e22, hs⟩ := o_bind hs
 refine w_call fnOk34 rfl rfl (place_Next_c N _ _ h.lt u10 y8.1 (h.ownS 3 rfl) (⟨5, 1, 1, 0, [], []⟩ : Rec) (.slice none 0 0) (.slice none 0 0) Rd2.nil Rd2.nil _ e22) ?_
 rintro _ w ⟨k26, u23, rfl, g24, g25⟩
 refine ⟨_, rfl, ?_⟩
 replace h := h.gotOwn 6 k26 g24 g25
 refine wl_ok (r_move (v := (.tuple #[u23, (.int .i64 (y21.2))])) rfl) (wl_ok (r_extract rfl rfl) (wl_ok (r_extract rfl rfl) (wl_ok (r_assign (v := u23) rfl) (wl_ok (r_assign (v := (.int .i64 (y21.2))) rfl) (wl_nil (then_normal (wc_seq (wc_region (wl_ok (r_move (v := (.int .i64 (y2.2))) rfl) (wl_ok (r_eql rfl rfl) (wl_ok (r_move (v := (.bool (decide ((y2.2 : Int) = 0)))) rfl) (wl_gd0 rfl rfl (fun q => r_move (v := (.int .i64 (y8.2))) rfl) (wl_gd0 rfl rfl (fun q => r_eql (gvt q) rfl) (wl_ok (r_pand rfl rfl evc) (wl_ok (r_move (v := (.bool ((decide ((y2.2 : Int) = 0) && decide ((y8.2 : Int) = 0))))) rfl) (wl_gd0 rfl rfl (fun q => r_move (v := (.int .i64 (y15.2))) rfl) (wl_gd0 rfl rfl (fun q => r_eql (gvt q) rfl) (wl_ok (r_pand rfl rfl evc) (wl_ok (r_move (v := (.bool (((decide ((y2.2 : Int) = 0) && decide ((y8.2 : Int) = 0)) && decide ((y15.2 : Int) = 7))))) rfl) (wl_gd0 rfl rfl (fun q => r_move (v := (.int .i64 (y21.2))) rfl) (wl_gd0 rfl rfl (fun q => r_eql (gvt q) rfl) (wl_ok (r_pand rfl rfl evc) (wl_ok (r_move (v := (.bool ((((decide ((y2.2 : Int) = 0) && decide ((y8.2 : Int) = 0)) && decide ((y15.2 : Int) = 7)) && decide ((y21.2 : Int) = 0))))) rfl) ?_)))))))))))))))))))))))
 refine wl_gd0 rfl rfl (fun q => r_move (v := u23) rfl) (wl_gd0 rfl rfl (fun q => r_len SliceOf54 (gvt q) (h.ownS 6 rfl)) (wl_gd0 rfl rfl (fun q => r_eql (gvt q) rfl) (wl_ok (r_pand rfl rfl evc) (wl_ok (r_move (v := (.bool (((((decide ((y2.2 : Int) = 0) && decide ((y8.2 : Int) = 0)) && decide ((y15.2 : Int) = 7)) && decide ((y21.2 : Int) = 0)) && decide (((y21.1.length : Int) : Int) = 0))))) rfl) (c_split (b := ((((decide ((y2.2 : Int) = 0) && decide ((y8.2 : Int) = 0)) && decide ((y15.2 : Int) = 7)) && decide ((y21.2 : Int) = 0)) && decide (((y21.1.length : Int) : Int) = 0))) hs (fun c27 hs => ?_) (fun c27 hs => ?_))))))
 ·
  refine wl_on rfl (congrArg Value.bool c27) (wl_ok (r_move (v := u4) rfl) (wl_on rfl (congrArg Value.bool c27) ?_))
  obtain ⟨y28, e29, hs⟩ := o_bind hs
  refine w_call fnOk52 rfl rfl (place_Find_c _ _ h.lt u4 y2.1 (h.ownS 2 rfl) 1 _ e29) ?_
  rintro _ w ⟨k30, rfl⟩
  refine ⟨_, rfl, ?_⟩
  replace h := h.grow k30
  refine wl_on rfl (congrArg Value.bool c27) (wl_ok (r_eql rfl rfl) (wl_ok (r_pick (b := true) (v := (.bool (decide ((y28 : Int) = 0)))) (congrArg Value.bool c27) rfl) (wl_ok (r_move (v := (.bool (decide ((y28 : Int) = 0)))) rfl) (c_split (b := decide ((y28 : Int) = 0)) hs (fun c31 hs => ?_) (fun c31 hs => ?_)))))
  ·
   refine wl_on rfl (congrArg Value.bool c31) (wl_ok (r_move (v := u4) rfl) (wl_on rfl (congrArg Value.bool c31) ?_))
   obtain ⟨y32, e33, hs⟩ := o_bind hs
   refine w_call fnOk52 rfl rfl (place_Find_c _ _ h.lt u4 y2.1 (h.ownS 2 rfl) 0 _ e33) ?_
   rintro _ w ⟨k34, rfl⟩
   refine ⟨_, rfl, ?_⟩
   replace h := h.grow k34
   refine wl_on rfl (congrArg Value.bool c31) (wl_ok (r_eql rfl rfl) (wl_ok (r_pick (b := true) (v := (.bool (decide ((y32 : Int) = -1)))) (congrArg Value.bool c31) rfl) (wl_ok (r_move (v := (.bool (decide ((y32 : Int) = -1)))) rfl) (c_split (b := decide ((y32 : Int) = -1)) hs (fun c35 hs => ?_) (fun c35 hs => ?_)))))
   ·
    refine wl_on rfl (congrArg Value.bool c35) (wl_ok (r_move (v := u10) rfl) (wl_on rfl (congrArg Value.bool c35) ?_))
    obtain ⟨x36, e37, hs⟩ := o_bind hs
    obtain ⟨b39, q40, i38⟩ := h.ixO 3 rfl SliceOf54 rfl (o_idx e37).1 (o_idx e37).2
    refine wl_ok (i38 _ _ _ _ _ _ _ _ _ rfl rfl) (wl_on rfl (congrArg Value.bool c35) (wl_ok (r_fieldAddr Fld83x3 rfl) (wl_on rfl (congrArg Value.bool c35) ?_)))
    obtain ⟨cs41, m42, r43⟩ := h.elO 3 rfl q40 (o_idx e37).2
    obtain ⟨u44, rfl, g45⟩ := rCo_open r43
    replace h := h.knowRd 7 g45
    refine wl_ok (r_ldA (k := 3) m42 One3 rfl rfl) (wl_on rfl (congrArg Value.bool c35) (wl_ok (r_eql rfl rfl) (wl_ok (r_pick (b := true) (v := (.bool (decide ((x36.offered : Int) = 2)))) (congrArg Value.bool c35) rfl) (wl_ok (r_assign (v := (.bool (decide ((x36.offered : Int) = 2)))) rfl) (wl_nil (then_normal (wc_ret (fin1 (v := (.bool (decide ((x36.offered : Int) = 2)))) Tryd.results33 rfl ?_))))))))
    obtain rfl := Option.some.inj hs
    exact ⟨h.grown, rfl⟩
   ·
    refine wl_off (b' := false) rfl (congrArg Value.bool c35) rfl (wl_off (b' := false) rfl (congrArg Value.bool c35) rfl (wl_off (b' := false) rfl (congrArg Value.bool c35) rfl (wl_off (b' := false) rfl (congrArg Value.bool c35) rfl (wl_off (b' := false) rfl (congrArg Value.bool c35) rfl (wl_ok (r_pick (b := false) (v := (.bool (false))) (congrArg Value.bool c35) rfl) (wl_ok (r_assign (v := (.bool (false))) rfl) (wl_nil (then_normal (wc_ret (fin1 (v := (.bool (false))) Tryd.results33 rfl ?_))))))))))
    obtain rfl := Option.some.inj hs
    exact ⟨h.grown, rfl⟩
  ·
   refine wl_off (b' := false) rfl (congrArg Value.bool c31) rfl (wl_off (b' := false) rfl (congrArg Value.bool c31) rfl (wl_off (b' := false) rfl (congrArg Value.bool c31) rfl (wl_ok (r_pick (b := false) (v := (.bool (false))) (congrArg Value.bool c31) rfl) (wl_ok (r_move (v := (.bool (false))) rfl) (wl_off (b' := false) rfl rfl rfl (wl_off (b' := false) rfl rfl rfl (wl_off (b' := false) rfl rfl rfl (wl_off (b' := false) rfl rfl rfl (wl_off (b' := false) rfl rfl rfl (wl_ok (r_pick (b := false) (v := (.bool (false))) rfl rfl) (wl_ok (r_assign (v := (.bool (false))) rfl) (wl_nil (then_normal (wc_ret (fin1 (v := (.bool (false))) Tryd.results33 rfl ?_)))))))))))))))
   obtain rfl := Option.some.inj hs
   exact ⟨h.grown, rfl⟩
 ·
  refine wl_off (b' := false) rfl (congrArg Value.bool c27) rfl (wl_off (b' := false) rfl (congrArg Value.bool c27) rfl (wl_off (b' := false) rfl (congrArg Value.bool c27) rfl (wl_ok (r_pick (b := false) (v := (.bool (false))) (congrArg Value.bool c27) rfl) (wl_ok (r_move (v := (.bool (false))) rfl) (wl_off (b' := false) rfl rfl rfl (wl_off (b' := false) rfl rfl rfl (wl_off (b' := false) rfl rfl rfl (wl_ok (r_pick (b := false) (v := (.bool (false))) rfl rfl) (wl_ok (r_move (v := (.bool (false))) rfl) (wl_off (b' := false) rfl rfl rfl (wl_off (b' := false) rfl rfl rfl (wl_off (b' := false) rfl rfl rfl (wl_off (b' := false) rfl rfl rfl (wl_off (b' := false) rfl rfl rfl (wl_ok (r_pick (b := false) (v := (.bool (false))) rfl rfl) (wl_ok (r_assign (v := (.bool (false))) rfl) (wl_nil (then_normal (wc_ret (fin1 (v := (.bool (false))) Tryd.results33 rfl ?_))))))))))))))))))))
  obtain rfl := Option.some.inj hs
  exact ⟨h.grown, rfl⟩
def place_Same_j22 (nx6 : Unit → Option Bool) (x27 : Bool) : Option Bool :=
  bif x27 then some false else nx6 ()
def place_Same_b23 (b : List Co) (i3 : Int) (x4 : Co) (s : Unit) (nx6 : Unit → Option Bool) : Option Bool :=
  (idx b i3).bind fun x17 => bif ((decide ((x4.id_ : Int) = x17.id_) && decide ((x4.epoch : Int) = x17.epoch)) && decide ((x4.offered : Int) = x17.offered)) then (slices_Equal_int x4.image x17.image).bind fun y32 => place_Same_j22 nx6 (!y32) else place_Same_j22 nx6 true
def place_Same_k24 (s : Unit) : Option Bool :=
  some true
def place_Same (a : List Co) (b : List Co) : Option Bool :=
  bif decide (((a.length : Int) : Int) ≠ (b.length : Int)) then some false else eachI (place_Same_b23 b) place_Same_k24 0 a ()
theorem place_Same_c (w0 : World) (M : BS) (hM : ∀ b, M b → b < w0.heap.size) (va : Value) (a : List Co) (ha : Rd2 rCo w0 BE M va a) (vb : Value) (b : List Co) (hb : Rd2 rCo w0 BE M vb b) (r : Bool) (hs : place_Same a b = some r) :
    Calls Tryd.prog 35 #[va, vb] w0 (fun e w' => Grow w0 w' ∧ e = .returned (.bool r)) := by
 refine calls_start (args := [va, vb]) Tryd.func35 rfl Tryd.ntmps35 (Nat.le_of_ble_eq_true rfl) ?_
 have h := SH.init hM
 replace h := h.argSr 1 ha none_own
 replace h := h.argSr 2 hb (hupd_own_sr none_own)
 have hl_a := ha.len_le
 have hl_b := hb.len_le
 refine wc_seq (wc_region (wl_ok (r_assign (v := (.bool (false))) rfl) (wl_nil (then_normal (wc_seq (wc_region (wl_ok (r_move (v := va) rfl) (wl_ok (r_move (v := vb) rfl) (w_callIn (args := [va, vb, (.func (.func 58) #[] #[])]) fnOk57 rfl rfl (calls_start (args := [va, vb, (.func (.func 58) #[] #[])]) Tryd.func57 rfl Tryd.ntmps57 (Nat.le_of_ble_eq_true rfl) (wc_seq (wc_region (wl_ok (r_assign (v := (.bool (false))) rfl) (wl_nil (then_normal (wc_seq (wc_seq (wc_region (wl_ok (r_move (v := va) rfl) (wl_ok (r_len SliceOf54 rfl (h.srS 1 rfl)) (wl_ok (r_move (v := vb) rfl) (wl_ok (r_len SliceOf54 rfl (h.srS 2 rfl)) (wl_ok (r_neq rfl rfl) ?_)))))))))))))))))))))))
 refine wl_nil (then_normal (wc_ifb hs rfl (fun c1 hs => ?_) (fun c1 hs => ?_)))
 ·
  refine wc_seq (wc_region (wl_ok (r_assign (v := (.bool (false))) rfl) (wl_nil (then_normal (wc_ret (then_ret (fin1 (v := (.bool (false))) Tryd.results57 rfl (⟨_, rfl, ?_⟩))))))))
  refine wl_ok (r_assign (v := (.bool (false))) rfl) (wl_nil (then_normal (wc_ret (fin1 (v := (.bool (false))) Tryd.results35 rfl ?_))))
  obtain rfl := Option.some.inj hs
  exact ⟨h.grown, rfl⟩
 ·
  refine wc_skip (then_normal (wc_seq (wc_seq (wc_region (wl_ok (r_move (v := va) rfl) (wl_ok (r_len SliceOf54 rfl (h.srS 1 rfl)) (wl_ok (r_move (v := (.int .i64 (0))) rfl) (wl_nil (then_normal (wc_block (wc_lp (σ := Nat × Int) (inl [6, 7, 8, 9, 17, 18, 19, 20, 21, 22, 23, 24, 25, 26, 27, 28, 29, 30, 31]) (fun ⟨k2, i3⟩ => [(17, (.int .i64 (i3)))]) (fun ⟨k2, i3⟩ w => SH w0 M BE w (hset [(1, .sr rCo va a), (2, .sr rCo vb b)]) ∧ i3 = (k2 : Int) ∧ eachI (place_Same_b23 b) place_Same_k24 i3 (a.drop k2) () = some r) (fun ⟨k2, i3⟩ => a.length - k2) ⟨0, 0⟩ ⟨rfl, trivial⟩ ?_ ?_)))))))))))
  ·
   exact ⟨h.cn _, rfl, hs⟩
  ·
   rintro ⟨k2, i3⟩ w junk ⟨h, hik, hs⟩
   refine wc_seq (wc_region ?_)
   refine wl_ok (r_lss rfl rfl) (wl_nil (then_normal ?_))
   refine wc_seq (wc_if rfl (fun e7 => ?_) (fun e7 => ?_))
   ·
    refine wc_skip (then_normal ?_)
    obtain ⟨x4, e8a, e8b⟩ := drop_lt (hik ▸ e7)
    rw [e8b, eachI_cons] at hs
    generalize hnx6 : eachI (place_Same_b23 b) place_Same_k24 (i3 + 1) (a.drop (k2 + 1)) = nx6 at hs
    have e8r := nat_rng ((h.srS 1 rfl)).len_le hik e7
    refine wc_seq (wc_block (wc_seq (wc_region (wl_ok (r_move (v := (.int .i64 (i3))) rfl) ?_))))
    obtain ⟨b10, o11, cs12, h, r13, i9⟩ := h.ixS 1 3 rfl SliceOf54 rfl (nat_nn hik) (get_nat hik e8a)
    obtain ⟨u14, rfl, g15⟩ := rCo_open r13
    replace h := h.knowRd 4 g15.up
    refine wl_ok (i9 _ _ _ _ _ _ _ _ _ rfl rfl) (wl_ok (r_ldPN (k := 0) (vs := [(.int .i64 (x4.id_)), (.int .i64 (x4.epoch)), u14, (.int .i64 (x4.offered))]) h 3 rfl Many83 rfl rfl rfl (Nat.le_of_ble_eq_true rfl)) (w_allocN h 5 Many83 fun w b16 h => wl_ok (r_assign (v := (.int .i64 (i3))) rfl) (w_stN (vs := [(.int .i64 (x4.id_)), (.int .i64 (x4.epoch)), u14, (.int .i64 (x4.offered))]) h 5 [(.int .i64 (x4.id_)), (.int .i64 (x4.epoch)), u14, (.int .i64 (x4.offered))] rfl Many83 rfl rfl rfl rfl rfl (ones_cons rfl (ones_cons rfl (ones_cons (h.rdAt 4 rfl).one (ones_cons rfl ones_nil)))) fun w h => wl_nil (then_normal (wc_seq (wc_region (wl_ok (r_move (v := vb) rfl) (wl_ok (r_move (v := (.int .i64 (i3))) rfl) ?_))))))))
    obtain ⟨x17, e18, hs⟩ := o_bind hs
    obtain ⟨b20, o21, cs22, h, r23, i19⟩ := h.ixS 2 6 rfl SliceOf54 rfl (o_idx e18).1 (o_idx e18).2
    obtain ⟨u24, rfl, g25⟩ := rCo_open r23
    replace h := h.knowRd 7 g25.up
    refine wl_ok (i19 _ _ _ _ _ _ _ _ _ rfl rfl) (wl_ok (r_ldPN (k := 0) (vs := [(.int .i64 (x17.id_)), (.int .i64 (x17.epoch)), u24, (.int .i64 (x17.offered))]) h 6 rfl Many83 rfl rfl rfl (Nat.le_of_ble_eq_true rfl)) (w_allocN h 8 Many83 fun w b26 h => w_stN (vs := [(.int .i64 (x17.id_)), (.int .i64 (x17.epoch)), u24, (.int .i64 (x17.offered))]) h 8 [(.int .i64 (x17.id_)), (.int .i64 (x17.epoch)), u24, (.int .i64 (x17.offered))] rfl Many83 rfl rfl rfl rfl rfl (ones_cons rfl (ones_cons rfl (ones_cons (h.rdAt 7 rfl).one (ones_cons rfl ones_nil)))) fun w h => wl_nil (then_normal (wc_join (σ := Bool) (inl [26, 27, 28, 29, 30]) (fun x27 => [(30, (.bool (x27)))]) (fun x27 w => SH w0 M BE w (hset [(1, .sr rCo va a), (2, .sr rCo vb b)]) ∧ place_Same_j22 nx6 x27 = some r) ?_ ?_))))
    ·
     rintro x27 w junk ⟨h, hs⟩
     refine wc_ifb hs rfl (fun c28 hs => ?_) (fun c28 hs => ?_)
     ·
      refine wc_seq (wc_region (wl_ok (r_assign (v := (.bool (false))) rfl) (wl_nil (then_normal (wc_ret (inBlock_ret (then_ret (then_ret (inBlock_ret (then_ret (fin1 (v := (.bool (false))) Tryd.results57 rfl (⟨_, rfl, ?_⟩))))))))))))
      refine wl_ok (r_assign (v := (.bool (false))) rfl) (wl_nil (then_normal (wc_ret (fin1 (v := (.bool (false))) Tryd.results35 rfl ?_))))
      obtain rfl := Option.some.inj hs
      exact ⟨h.grown, rfl⟩
     ·
      refine wc_skip (inBlock_normal (then_normal (wc_region (wl_ok (r_add rfl rfl e8r) (wl_ok (r_move (v := (.int .i64 ((i3 + 1)))) rfl) (wl_nil (then_loop ?_)))))))
      subst hnx6
      exact lend ⟨k2 + 1, i3 + 1⟩ ⟨h.cn _, by omega, hs⟩ (by have := of_decide_eq_true e7; dsimp only; omega)
    ·
     refine wc_region (wl_ok (r_move (v := (.func (.func 58) #[] #[])) rfl) (wl_ok (r_ldBN (vs := [(.int .i64 (x4.id_)), (.int .i64 (x4.epoch)), u14, (.int .i64 (x4.offered))]) h 5 rfl Many83 rfl rfl rfl) (wl_ok (r_ldBN (vs := [(.int .i64 (x17.id_)), (.int .i64 (x17.epoch)), u24, (.int .i64 (x17.offered))]) h 8 rfl Many83 rfl rfl rfl) (w_callIn (args := [(.agg #[(.int .i64 (x4.id_)), (.int .i64 (x4.epoch)), u14, (.int .i64 (x4.offered))]), (.agg #[(.int .i64 (x17.id_)), (.int .i64 (x17.epoch)), u24, (.int .i64 (x17.offered))])]) fnOk58 rfl rfl (calls_start (args := [(.agg #[(.int .i64 (x4.id_)), (.int .i64 (x4.epoch)), u14, (.int .i64 (x4.offered))]), (.agg #[(.int .i64 (x17.id_)), (.int .i64 (x17.epoch)), u24, (.int .i64 (x17.offered))])]) Tryd.func58 rfl Tryd.ntmps58 (Nat.le_of_ble_eq_true rfl) (wc_seq (wc_region (w_box (cs := [(.int .i64 (x4.id_)), (.int .i64 (x4.epoch)), u14, (.int .i64 (x4.offered))]) h 9 rfl rfl fun w b29 h => w_box (cs := [(.int .i64 (x17.id_)), (.int .i64 (x17.epoch)), u24, (.int .i64 (x17.offered))]) h 10 rfl rfl fun w b30 h => wl_ok (r_assign (v := (.bool (false))) rfl) (wl_nil (then_normal (wc_seq (wc_region (wl_ok (r_fieldAddr Fld83x0 rfl) (wl_ok (r_ldB h 9 rfl One3 rfl rfl) (wl_ok (r_fieldAddr Fld83x0 rfl) (wl_ok (r_ldB h 10 rfl One3 rfl rfl) (wl_ok (r_eql rfl rfl) (wl_ok (r_move (v := (.bool (decide ((x4.id_ : Int) = x17.id_)))) rfl) (wl_gd0 rfl rfl (fun q => r_fieldAddr Fld83x1 rfl) (wl_gd0 rfl rfl (fun q => r_ldB h 9 rfl One3 (gvt q) rfl) (wl_gd0 rfl rfl (fun q => r_fieldAddr Fld83x1 rfl) ?_)))))))))))))))))))))
     refine wl_gd0 rfl rfl (fun q => r_ldB h 10 rfl One3 (gvt q) rfl) (wl_gd0 rfl rfl (fun q => r_eql (gvt q) (gvt q)) (wl_ok (r_pand rfl rfl evc) (wl_ok (r_move (v := (.bool ((decide ((x4.id_ : Int) = x17.id_) && decide ((x4.epoch : Int) = x17.epoch))))) rfl) (wl_gd0 rfl rfl (fun q => r_fieldAddr Fld83x3 rfl) (wl_gd0 rfl rfl (fun q => r_ldB h 9 rfl One3 (gvt q) rfl) (wl_gd0 rfl rfl (fun q => r_fieldAddr Fld83x3 rfl) (wl_gd0 rfl rfl (fun q => r_ldB h 10 rfl One3 (gvt q) rfl) (wl_gd0 rfl rfl (fun q => r_eql (gvt q) (gvt q)) (wl_ok (r_pand rfl rfl evc) (wl_ok (r_move (v := (.bool (((decide ((x4.id_ : Int) = x17.id_) && decide ((x4.epoch : Int) = x17.epoch)) && decide ((x4.offered : Int) = x17.offered))))) rfl) (c_split (b := ((decide ((x4.id_ : Int) = x17.id_) && decide ((x4.epoch : Int) = x17.epoch)) && decide ((x4.offered : Int) = x17.offered))) hs (fun c31 hs => ?_) (fun c31 hs => ?_))))))))))))
     ·
      refine wl_on rfl (congrArg Value.bool c31) (wl_ok (r_fieldAddr Fld83x2 rfl) (wl_on rfl (congrArg Value.bool c31) (wl_ok (r_ldB h 9 rfl One22 rfl rfl) (wl_on rfl (congrArg Value.bool c31) (wl_ok (r_fieldAddr Fld83x2 rfl) (wl_on rfl (congrArg Value.bool c31) (wl_ok (r_ldB h 10 rfl One22 rfl rfl) (wl_on rfl (congrArg Value.bool c31) ?_))))))))
      obtain ⟨y32, e33, hs⟩ := o_bind hs
      refine w_call fnOk39 rfl rfl (slices_Equal_int_c _ _ h.lt u14 x4.image (h.rdS 4 rfl) u24 x17.image (h.rdS 7 rfl) _ e33) ?_
      rintro _ w ⟨k34, rfl⟩
      refine ⟨_, rfl, ?_⟩
      replace h := h.grow k34
      refine wl_ok (r_pick (b := true) (v := (.bool (y32))) (congrArg Value.bool c31) rfl) (wl_ok (r_assign (v := (.bool (y32))) rfl) (wl_nil (then_normal (wc_ret (fin1 (v := (.bool (y32))) Tryd.results58 rfl (⟨_, rfl, ?_⟩))))))
      refine wl_ok (r_notb rfl) (wl_nil (then_loop ?_))
      exact jend (!y32) ⟨h.cn _, hs⟩
     ·
      refine wl_off (b' := false) rfl (congrArg Value.bool c31) rfl (wl_off (b' := false) rfl (congrArg Value.bool c31) rfl (wl_off (b' := false) rfl (congrArg Value.bool c31) rfl (wl_off (b' := false) rfl (congrArg Value.bool c31) rfl (wl_off (b' := false) rfl (congrArg Value.bool c31) rfl (wl_ok (r_pick (b := false) (v := (.bool (false))) (congrArg Value.bool c31) rfl) (wl_ok (r_assign (v := (.bool (false))) rfl) (wl_nil (then_normal (wc_ret (fin1 (v := (.bool (false))) Tryd.results58 rfl (⟨_, rfl, ?_⟩)))))))))))
      refine wl_ok (r_notb rfl) (wl_nil (then_loop ?_))
      exact jend true ⟨h.cn _, hs⟩
   ·
    rw [drop_ge (hik ▸ e7), eachI_nil] at hs
    refine wc_exit (then_exit (then_exit (inBlock_eq (then_normal (wc_seq (wc_region (wl_ok (r_assign (v := (.bool (true))) rfl) (wl_nil (then_normal (wc_ret (fin1 (v := (.bool (true))) Tryd.results57 rfl (⟨_, rfl, ?_⟩))))))))))))
    refine wl_ok (r_assign (v := (.bool (true))) rfl) (wl_nil (then_normal (wc_ret (fin1 (v := (.bool (true))) Tryd.results35 rfl ?_))))
    obtain rfl := Option.some.inj hs
    exact ⟨h.grown, rfl⟩
def wandererlaw_PlaceParts_b11 (y117 : Disk × List Rec × Int) (a : List Rec) (i135 : Int) (s : Unit) (nx138 : Unit → Option Bool) : Option Bool :=
  (idx y117.2.1 i135).bind fun x141 => (idx a i135).bind fun x154 => (record_Same x141 x154).bind fun y166 => bif (!y166) then some false else nx138 ()
def wandererlaw_PlaceParts_k12 (s : Unit) : Option Bool :=
  some true
def wandererlaw_PlaceParts_b13 (N : Nat) (x86 : Rec) (s : List UInt8 × List UInt8) (nx88 : List UInt8 × List UInt8 → Option Bool) : Option Bool :=
  match s with | (y81, y83) => (disk_Put N (⟨y81, y83⟩ : Disk) x86).bind fun y101 => bif decide ((y101.2 : Int) ≠ 0) then some (decide ((y101.2 : Int) = 2)) else (disk_Sync N y101.1).bind fun y109 => bif decide ((y109.2 : Int) ≠ 0) then some false else nx88 (y109.1.safe, y109.1.wait)
def wandererlaw_PlaceParts_k14 (N : Nat) (x42 : List Co) (y1 : List Co × Int) (a : List Rec) (s : List UInt8 × List UInt8) : Option Bool :=
  match s with | (y81, y83) => (disk_Recover N (⟨y81, y83⟩ : Disk)).bind fun y117 => bif decide ((y117.2.2 : Int) = 0) then (place_Same x42 y1.1).bind fun y129 => bif y129 then bif decide (((y117.2.1.length : Int) : Int) ≠ (a.length : Int)) then some false else upto (wandererlaw_PlaceParts_b11 y117 a) wandererlaw_PlaceParts_k12 0 ((y117.2.1.length : Int)).toNat () else some false else some false
def wandererlaw_PlaceParts_b15 (N : Nat) (x45 : Rec) (x42 : List Co) (nx47 : List Co → Option Bool) : Option Bool :=
  (place_Next N x42 x45).bind fun y60 => bif decide ((y60.2 : Int) ≠ 0) then some false else nx47 y60.1
def wandererlaw_PlaceParts_k16 (N : Nat) (y1 : List Co × Int) (a : List Rec) (x42 : List Co) : Option Bool :=
  each (wandererlaw_PlaceParts_b13 N) (wandererlaw_PlaceParts_k14 N x42 y1 a) a ([], [])
def wandererlaw_PlaceParts (N : Nat) (a : List Rec) (b : Int) : Option Bool :=
  (place_Replay N a).bind fun y1 => (wandererlaw_held N).bind fun y7 => bif ((!y7) || decide ((y1.2 : Int) ≠ 0)) then (wandererlaw_held N).bind fun y11 => some y11 else grd (I64 ((a.length : Int) + 1)) ((wandererlaw_at b ((a.length : Int) + 1)).bind fun y15 => (sub? a 0 y15).bind fun x18 => (place_Replay N x18).bind fun y23 => bif decide ((y23.2 : Int) ≠ 0) then some false else (sub? a y15 (a.length : Int)).bind fun x30 => each (wandererlaw_PlaceParts_b15 N) (wandererlaw_PlaceParts_k16 N y1 a) x30 y23.1)
theorem wandererlaw_PlaceParts_c (N : Nat) (w0 : World) (M : BS) (hM : ∀ b, M b → b < w0.heap.size) (hT : Tabs Tryd.prog 3 w0) (va : Value) (a : List Rec) (ha : Rd2 rRec w0 BE M va a) (b : Int) (r : Bool) (hs : wandererlaw_PlaceParts N a b = some r) :
    Calls Tryd.prog 7 #[va, (.int .i64 (b))] w0 (fun e w' => Grow w0 w' ∧ e = .returned (.bool r)) := by
 refine calls_start (args := [va, (.int .i64 (b))]) Tryd.func7 rfl Tryd.ntmps7 (Nat.le_of_ble_eq_true rfl) ?_
 have h := SH.init hM
 replace h := h.argSr 1 ha none_own
 have hl_a := ha.len_le
 refine wc_seq (wc_region (wl_ok (r_assign (v := (.bool (false))) rfl) (wl_nil (then_normal (wc_seq (wc_region (wl_ok (r_move (v := va) rfl) ?_)))))))
 obtain ⟨y1, e2, hs⟩ := o_bind hs
 refine w_call fnOk32 rfl rfl (place_Replay_c N _ _ h.lt va a (h.srS 1 rfl) _ e2) ?_
 rintro _ w ⟨k6, u3, rfl, g4, g5⟩
 refine ⟨_, rfl, ?_⟩
 replace h := h.gotOwn 2 k6 g4 g5
 refine wl_ok (r_move (v := (.tuple #[u3, (.int .i64 (y1.2))])) rfl) (wl_ok (r_extract rfl rfl) (wl_ok (r_extract rfl rfl) (wl_ok (r_assign (v := u3) rfl) (wl_ok (r_assign (v := (.int .i64 (y1.2))) rfl) (wl_nil (then_normal (wc_seq (wc_seq (wc_region ?_)))))))))
 obtain ⟨y7, e8, hs⟩ := o_bind hs
 refine w_call fnOk33 rfl rfl (wandererlaw_held_c N _ _ h.lt  _ e8) ?_
 rintro _ w ⟨k9, rfl⟩
 refine ⟨_, rfl, ?_⟩
 replace h := h.grow k9
 refine wl_ok (r_notb rfl) (wl_ok (r_move (v := (.bool ((!y7)))) rfl) (wl_gd0 rfl rfl (fun q => r_move (v := (.int .i64 (y1.2))) rfl) (wl_gd0 rfl rfl (fun q => r_neq (gvt q) rfl) (wl_ok (r_por rfl rfl evc) (wl_nil (then_normal (wc_ifb hs rfl (fun c10 hs => ?_) (fun c10 hs => ?_))))))))
 ·
  refine wc_seq (wc_region ?_)
  obtain ⟨y11, e12, hs⟩ := o_bind hs
  refine w_call fnOk33 rfl rfl (wandererlaw_held_c N _ _ h.lt  _ e12) ?_
  rintro _ w ⟨k13, rfl⟩
  refine ⟨_, rfl, ?_⟩
  replace h := h.grow k13
  refine wl_ok (r_assign (v := (.bool (y11))) rfl) (wl_nil (then_normal (wc_ret (then_ret (fin1 (v := (.bool (y11))) Tryd.results7 rfl ?_)))))
  obtain rfl := Option.some.inj hs
  exact ⟨h.grown, rfl⟩
 ·
  refine wc_skip (then_normal (wc_seq (wc_region (wl_ok (r_move (v := (.int .i64 (b))) rfl) (wl_ok (r_move (v := va) rfl) (wl_ok (r_len SliceOf34 rfl (h.srS 1 rfl)) ?_))))))
  obtain ⟨a14, hs⟩ := o_grd hs
  refine wl_ok (r_add rfl rfl a14) ?_
  obtain ⟨y15, e16, hs⟩ := o_bind hs
  refine w_call fnOk21 rfl rfl (wandererlaw_at_c _ _ h.lt b ((a.length : Int) + 1) _ e16) ?_
  rintro _ w ⟨k17, rfl⟩
  refine ⟨_, rfl, ?_⟩
  replace h := h.grow k17
  refine wl_ok (r_assign (v := (.int .i64 (y15))) rfl) (wl_nil (then_normal (wc_seq (wc_region (wl_ok (r_move (v := va) rfl) (wl_ok (r_move (v := (.int .i64 (y15))) rfl) ?_))))))
  obtain ⟨x18, e19, hs⟩ := o_bind hs
  obtain ⟨e22, e22a, e22b, e22c⟩ := o_sub e19
  obtain ⟨u20, h, i21⟩ := h.slS 1 3 rfl SliceOf34 rfl e22a e22b e22c
  rw [← e22] at h
  refine wl_ok (i21 _ _ _ _ _ _ _ _ _ _ rfl (.inl ⟨rfl, rfl⟩) (.inr (congrArg some rfl))) ?_
  obtain ⟨y23, e24, hs⟩ := o_bind hs
  refine w_call fnOk32 rfl rfl (place_Replay_c N _ _ h.lt u20 x18 (h.srS 3 rfl) _ e24) ?_
  rintro _ w ⟨k28, u25, rfl, g26, g27⟩
  refine ⟨_, rfl, ?_⟩
  replace h := h.gotOwn 4 k28 g26 g27
  refine wl_ok (r_move (v := (.tuple #[u25, (.int .i64 (y23.2))])) rfl) (wl_ok (r_extract rfl rfl) (wl_ok (r_extract rfl rfl) (wl_ok (r_assign (v := u25) rfl) (wl_ok (r_assign (v := (.int .i64 (y23.2))) rfl) (wl_nil (then_normal (wc_seq (wc_seq (wc_region (wl_ok (r_move (v := (.int .i64 (y23.2))) rfl) (wl_ok (r_neq rfl rfl) (wl_nil (then_normal (wc_ifb hs rfl (fun c29 hs => ?_) (fun c29 hs => ?_)))))))))))))))
  ·
   refine wc_seq (wc_region (wl_ok (r_assign (v := (.bool (false))) rfl) (wl_nil (then_normal (wc_ret (then_ret (fin1 (v := (.bool (false))) Tryd.results7 rfl ?_)))))))
   obtain rfl := Option.some.inj hs
   exact ⟨h.grown, rfl⟩
  ·
   refine wc_skip (then_normal (wc_seq (wc_seq (wc_region (wl_ok (r_move (v := va) rfl) (wl_ok (r_move (v := (.int .i64 (y15))) rfl) ?_))))))
   obtain ⟨x30, e31, hs⟩ := o_bind hs
   obtain ⟨e34, e34a, e34b, e34c⟩ := o_sub e31
   obtain ⟨u32, h, i33⟩ := h.slS 1 5 rfl SliceOf34 rfl e34a e34b e34c
   rw [← e34] at h
   refine wl_ok (i33 _ _ _ _ _ _ _ _ _ _ rfl (.inr (congrArg some rfl)) (.inl ⟨rfl, rfl⟩)) (wl_ok (r_len SliceOf34 rfl (h.srS 5 rfl)) (wl_ok (r_move (v := (.int .i64 (0))) rfl) (wl_nil (then_normal (wc_block ?_)))))
   replace h := h.moveO 4 9 rfl rfl (by decide)
   refine wc_lp (σ := Nat × Int × Value × List Co) (inl [4, 6, 7, 9, 45, 46, 47, 48, 49, 50, 51, 52, 53, 54, 55, 56, 57]) (fun ⟨k43, i44, v41, x42⟩ => [(7, v41), (45, (.int .i64 (i44)))]) (fun ⟨k43, i44, v41, x42⟩ w => SH w0 M BE w (hset [(1, .sr rRec va a), (2, .own rCo 83 u3 y1.1), (5, .sr rRec u32 x30), (9, .own rCo 83 v41 x42)]) ∧ i44 = (k43 : Int) ∧ each (wandererlaw_PlaceParts_b15 N) (wandererlaw_PlaceParts_k16 N y1 a) (x30.drop k43) x42 = some r) (fun ⟨k43, i44, v41, x42⟩ => x30.length - k43) ⟨0, 0, u25, y23.1⟩ ⟨rfl, rfl, trivial⟩ ?_ ?_
   ·
    exact ⟨h.cn _, rfl, hs⟩
   ·
    rintro ⟨k43, i44, v41, x42⟩ w junk ⟨h, hik, hs⟩
    refine wc_seq (wc_region ?_)
    refine wl_ok (r_lss rfl rfl) (wl_nil (then_normal ?_))
    refine wc_seq (wc_if rfl (fun e48 => ?_) (fun e48 => ?_))
    ·
     refine wc_skip (then_normal ?_)
     obtain ⟨x45, e49a, e49b⟩ := drop_lt (hik ▸ e48)
     rw [e49b, each_cons] at hs
     generalize hnx47 : each (wandererlaw_PlaceParts_b15 N) (wandererlaw_PlaceParts_k16 N y1 a) (x30.drop (k43 + 1)) = nx47 at hs
     have e49r := nat_rng ((h.srS 5 rfl)).len_le hik e48
     refine wc_seq (wc_block (wc_seq (wc_region ?_)))
     obtain ⟨b51, o52, cs53, h, r54, i50⟩ := h.ixS 5 10 rfl SliceOf34 rfl (nat_nn hik) (get_nat hik e49a)
     obtain ⟨u55, u57, rfl, g56, g58⟩ := rRec_open r54
     replace h := h.knowRd 11 g56.up
     replace h := h.knowRd 12 g58.up.up
     refine wl_ok (i50 _ _ _ _ _ _ _ _ _ rfl rfl) (wl_ok (r_ldPN (k := 0) (vs := [(.int .i64 (x45.kind)), (.int .i64 (x45.co)), (.int .i64 (x45.epoch)), (.int .i64 (x45.place)), u55, u57]) h 10 rfl Many24 rfl rfl rfl (Nat.le_of_ble_eq_true rfl)) (w_allocN h 13 Many24 fun w b59 h => w_stN (vs := [(.int .i64 (x45.kind)), (.int .i64 (x45.co)), (.int .i64 (x45.epoch)), (.int .i64 (x45.place)), u55, u57]) h 13 [(.int .i64 (x45.kind)), (.int .i64 (x45.co)), (.int .i64 (x45.epoch)), (.int .i64 (x45.place)), u55, u57] rfl Many24 rfl rfl rfl rfl rfl (ones_cons rfl (ones_cons rfl (ones_cons rfl (ones_cons rfl (ones_cons (h.rdAt 11 rfl).one (ones_cons (h.rdAt 12 rfl).one ones_nil)))))) fun w h => wl_nil (then_normal (wc_seq (wc_region (wl_ok (r_move (v := v41) rfl) (wl_ok (r_ldBN (vs := [(.int .i64 (x45.kind)), (.int .i64 (x45.co)), (.int .i64 (x45.epoch)), (.int .i64 (x45.place)), u55, u57]) h 13 rfl Many24 rfl rfl rfl) ?_)))))))
     obtain ⟨y60, e61, hs⟩ := o_bind hs
     refine w_call fnOk34 rfl rfl (place_Next_c N _ _ h.lt v41 x42 (h.ownS 9 rfl) x45 u55 u57 (h.rdS 11 rfl) (h.rdS 12 rfl) _ e61) ?_
     rintro _ w ⟨k65, u62, rfl, g63, g64⟩
     refine ⟨_, rfl, ?_⟩
     replace h := h.gotOwn 14 k65 g63 g64
     refine wl_ok (r_move (v := (.tuple #[u62, (.int .i64 (y60.2))])) rfl) (wl_ok (r_extract rfl rfl) (wl_ok (r_extract rfl rfl) (wl_ok (r_assign (v := u62) rfl) (wl_ok (r_assign (v := (.int .i64 (y60.2))) rfl) (wl_nil (then_normal (wc_seq (wc_region (wl_ok (r_move (v := (.int .i64 (y60.2))) rfl) (wl_ok (r_neq rfl rfl) (wl_nil (then_normal (wc_ifb hs rfl (fun c66 hs => ?_) (fun c66 hs => ?_))))))))))))))
     ·
      refine wc_seq (wc_region (wl_ok (r_assign (v := (.bool (false))) rfl) (wl_nil (then_normal (wc_ret (inBlock_ret (then_ret (then_ret (inBlock_ret (then_ret (fin1 (v := (.bool (false))) Tryd.results7 rfl ?_)))))))))))
      obtain rfl := Option.some.inj hs
      exact ⟨h.grown, rfl⟩
     ·
      refine wc_skip (inBlock_normal (then_normal (wc_region (wl_ok (r_add rfl rfl e49r) (wl_ok (r_move (v := (.int .i64 ((i44 + 1)))) rfl) (wl_nil (then_loop ?_)))))))
      replace h := (h.dropC 9).moveO 14 9 rfl rfl (by decide)
      subst hnx47
      exact lend ⟨k43 + 1, i44 + 1, u62, y60.1⟩ ⟨h.cn _, by omega, hs⟩ (by have := of_decide_eq_true e48; dsimp only; omega)
    ·
     rw [drop_ge (hik ▸ e48), each_nil] at hs
     refine wc_exit (then_exit (then_exit (inBlock_eq (then_normal (wc_seq (wc_region (w_allocN h 15 Many37 fun w b67 h => wl_nil (then_normal (wc_seq (wc_seq (wc_region (wl_ok (r_move (v := va) rfl) (wl_ok (r_len SliceOf34 rfl (h.srS 1 rfl)) (wl_ok (r_move (v := (.int .i64 (0))) rfl) (wl_nil (then_normal (wc_block ?_)))))))))))))))))
     replace h := h.knowRd 22 (Rd2.nil (R := rByte))
     replace h := h.knowRd 23 (Rd2.nil (R := rByte))
     refine wc_lp (σ := Nat × Int × Value × List UInt8 × Value × List UInt8) (inl [4, 6, 12, 60, 61, 62, 63, 64, 65, 66, 67, 68, 69, 70, 71, 72, 73, 74, 75, 76, 77, 78, 79, 80, 81]) (fun ⟨k84, i85, v80, y81, v82, y83⟩ => [(60, (.int .i64 (i85)))]) (fun ⟨k84, i85, v80, y81, v82, y83⟩ w => SH w0 M BE w (hset [(1, .sr rRec va a), (2, .own rCo 83 u3 y1.1), (9, .own rCo 83 v41 x42), (15, .blk b67 [v80, v82]), (22, .rd rByte v80 y81), (23, .rd rByte v82 y83)]) ∧ i85 = (k84 : Int) ∧ each (wandererlaw_PlaceParts_b13 N) (wandererlaw_PlaceParts_k14 N x42 y1 a) (a.drop k84) (y81, y83) = some r) (fun ⟨k84, i85, v80, y81, v82, y83⟩ => a.length - k84) ⟨0, 0, (.slice none 0 0), [], (.slice none 0 0), []⟩ ⟨rfl, trivial⟩ ?_ ?_
     ·
      exact ⟨h.cn _, rfl, hs⟩
     ·
      rintro ⟨k84, i85, v80, y81, v82, y83⟩ w junk ⟨h, hik, hs⟩
      refine wc_seq (wc_region ?_)
      refine wl_ok (r_lss rfl rfl) (wl_nil (then_normal ?_))
      refine wc_seq (wc_if rfl (fun e89 => ?_) (fun e89 => ?_))
      ·
       refine wc_skip (then_normal ?_)
       obtain ⟨x86, e90a, e90b⟩ := drop_lt (hik ▸ e89)
       rw [e90b, each_cons] at hs
       generalize hnx88 : each (wandererlaw_PlaceParts_b13 N) (wandererlaw_PlaceParts_k14 N x42 y1 a) (a.drop (k84 + 1)) = nx88 at hs
       have e90r := nat_rng ((h.srS 1 rfl)).len_le hik e89
       refine wc_seq (wc_block (wc_seq (wc_region ?_)))
       obtain ⟨b92, o93, cs94, h, r95, i91⟩ := h.ixS 1 24 rfl SliceOf34 rfl (nat_nn hik) (get_nat hik e90a)
       obtain ⟨u96, u98, rfl, g97, g99⟩ := rRec_open r95
       replace h := h.knowRd 25 g97.up
       replace h := h.knowRd 26 g99.up.up
       refine wl_ok (i91 _ _ _ _ _ _ _ _ _ rfl rfl) (wl_ok (r_ldPN (k := 0) (vs := [(.int .i64 (x86.kind)), (.int .i64 (x86.co)), (.int .i64 (x86.epoch)), (.int .i64 (x86.place)), u96, u98]) h 24 rfl Many24 rfl rfl rfl (Nat.le_of_ble_eq_true rfl)) (w_allocN h 27 Many24 fun w b100 h => w_stN (vs := [(.int .i64 (x86.kind)), (.int .i64 (x86.co)), (.int .i64 (x86.epoch)), (.int .i64 (x86.place)), u96, u98]) h 27 [(.int .i64 (x86.kind)), (.int .i64 (x86.co)), (.int .i64 (x86.epoch)), (.int .i64 (x86.place)), u96, u98] rfl Many24 rfl rfl rfl rfl rfl (ones_cons rfl (ones_cons rfl (ones_cons rfl (ones_cons rfl (ones_cons (h.rdAt 25 rfl).one (ones_cons (h.rdAt 26 rfl).one ones_nil)))))) fun w h => wl_nil (then_normal (wc_seq (wc_seq (wc_region (wl_ok (r_ldBN (vs := [v80, v82]) h 15 rfl Many37 rfl rfl rfl) (wl_ok (r_ldBN (vs := [(.int .i64 (x86.kind)), (.int .i64 (x86.co)), (.int .i64 (x86.epoch)), (.int .i64 (x86.place)), u96, u98]) h 27 rfl Many24 rfl rfl rfl) ?_))))))))
       obtain ⟨y101, e102, hs⟩ := o_bind hs
       refine w_call fnOk18 rfl rfl (disk_Put_c N _ _ h.lt (hT.go h.keep) (⟨y81, y83⟩ : Disk) v80 v82 (h.rdS 22 rfl) (h.rdS 23 rfl) x86 u96 u98 (h.rdAt 25 rfl) (h.rdAt 26 rfl) _ e102) ?_
       rintro _ w ⟨k107, u103, u105, rfl, g104, g106⟩
       refine ⟨_, rfl, ?_⟩
       replace h := h.gotRd 28 k107 g104
       replace h := h.knowRd 29 g106.up
       refine wl_ok (r_move (v := (.tuple #[(.agg #[u103, u105]), (.int .i64 (y101.2))])) rfl) (wl_ok (r_extract rfl rfl) (wl_ok (r_extract rfl rfl) (w_stN (vs := [u103, u105]) h 15 [u103, u105] rfl Many37 rfl rfl rfl rfl rfl (ones_cons (h.rdAt 28 rfl).one (ones_cons (h.rdAt 29 rfl).one ones_nil)) fun w h => wl_ok (r_assign (v := (.int .i64 (y101.2))) rfl) (wl_nil (then_normal (wc_seq (wc_region (wl_ok (r_move (v := (.int .i64 (y101.2))) rfl) (wl_ok (r_neq rfl rfl) (wl_nil (then_normal (wc_ifb hs rfl (fun c108 hs => ?_) (fun c108 hs => ?_)))))))))))))
       ·
        refine wc_seq (wc_region (wl_ok (r_move (v := (.int .i64 (y101.2))) rfl) (wl_ok (r_eql rfl rfl) (wl_ok (r_assign (v := (.bool (decide ((y101.2 : Int) = 2)))) rfl) (wl_nil (then_normal (wc_ret (then_ret (inBlock_ret (then_ret (then_ret (inBlock_ret (then_ret (fin1 (v := (.bool (decide ((y101.2 : Int) = 2)))) Tryd.results7 rfl ?_))))))))))))))
        obtain rfl := Option.some.inj hs
        exact ⟨h.grown, rfl⟩
       ·
        refine wc_skip (then_normal (wc_seq (wc_region (wl_ok (r_ldBN (vs := [u103, u105]) h 15 rfl Many37 rfl rfl rfl) ?_))))
        obtain ⟨y109, e110, hs⟩ := o_bind hs
        refine w_call fnOk19 rfl rfl (disk_Sync_c N _ _ h.lt (hT.go h.keep) y101.1 u103 u105 (h.rdAt 28 rfl) (h.rdAt 29 rfl) _ e110) ?_
        rintro _ w ⟨k115, u111, u113, rfl, g112, g114⟩
        refine ⟨_, rfl, ?_⟩
        replace h := h.gotRd 30 k115 g112
        replace h := h.knowRd 31 g114.up
        refine wl_ok (r_move (v := (.tuple #[(.agg #[u111, u113]), (.int .i64 (y109.2))])) rfl) (wl_ok (r_extract rfl rfl) (wl_ok (r_extract rfl rfl) (w_stN (vs := [u111, u113]) h 15 [u111, u113] rfl Many37 rfl rfl rfl rfl rfl (ones_cons (h.rdAt 30 rfl).one (ones_cons (h.rdAt 31 rfl).one ones_nil)) fun w h => wl_ok (r_assign (v := (.int .i64 (y109.2))) rfl) (wl_nil (then_normal (wc_seq (wc_region (wl_ok (r_move (v := (.int .i64 (y109.2))) rfl) (wl_ok (r_neq rfl rfl) (wl_nil (then_normal (wc_ifb hs rfl (fun c116 hs => ?_) (fun c116 hs => ?_)))))))))))))
        ·
         refine wc_seq (wc_region (wl_ok (r_assign (v := (.bool (false))) rfl) (wl_nil (then_normal (wc_ret (inBlock_ret (then_ret (then_ret (inBlock_ret (then_ret (fin1 (v := (.bool (false))) Tryd.results7 rfl ?_)))))))))))
         obtain rfl := Option.some.inj hs
         exact ⟨h.grown, rfl⟩
        ·
         refine wc_skip (inBlock_normal (then_normal (wc_region (wl_ok (r_add rfl rfl e90r) (wl_ok (r_move (v := (.int .i64 ((i85 + 1)))) rfl) (wl_nil (then_loop ?_)))))))
         replace h := h.copyR 30 22 rfl
         replace h := h.copyR 31 23 rfl
         subst hnx88
         exact lend ⟨k84 + 1, i85 + 1, u111, y109.1.safe, u113, y109.1.wait⟩ ⟨h.cn _, by omega, hs⟩ (by have := of_decide_eq_true e89; dsimp only; omega)
      ·
       rw [drop_ge (hik ▸ e89), each_nil] at hs
       refine wc_exit (then_exit (then_exit (inBlock_eq (then_normal (wc_seq (wc_region (wl_ok (r_ldBN (vs := [v80, v82]) h 15 rfl Many37 rfl rfl rfl) ?_)))))))
       obtain ⟨y117, e118, hs⟩ := o_bind hs
       refine w_call fnOk22 rfl rfl (disk_Recover_c N _ _ h.lt (hT.go h.keep) (⟨y81, y83⟩ : Disk) v80 v82 (h.rdAt 22 rfl) (h.rdAt 23 rfl) _ e118) ?_
       rintro _ w ⟨k126, u119, u121, u123, rfl, g120, g122, g124, g125⟩
       refine ⟨_, rfl, ?_⟩
       replace h := h.gotOwn 34 k126 g124 g125
       replace h := h.knowRd 32 g120.upO
       replace h := h.knowRd 33 g122.upO.up
       refine wl_ok (r_move (v := (.tuple #[(.agg #[u119, u121]), u123, (.int .i64 (y117.2.2))])) rfl) (wl_ok (r_extract rfl rfl) (wl_ok (r_extract rfl rfl) (wl_ok (r_extract rfl rfl) (w_allocN h 35 Many37 fun w b127 h => w_stN (vs := [u119, u121]) h 35 [u119, u121] rfl Many37 rfl rfl rfl rfl rfl (ones_cons (h.rdAt 32 rfl).one (ones_cons (h.rdAt 33 rfl).one ones_nil)) fun w h => wl_ok (r_assign (v := u123) rfl) (wl_ok (r_assign (v := (.int .i64 (y117.2.2))) rfl) (wl_nil (then_normal (wc_seq (wc_region (wl_ok (r_move (v := (.int .i64 (y117.2.2))) rfl) (wl_ok (r_eql rfl rfl) (wl_ok (r_move (v := (.bool (decide ((y117.2.2 : Int) = 0)))) rfl) (c_split (b := decide ((y117.2.2 : Int) = 0)) hs (fun c128 hs => ?_) (fun c128 hs => ?_))))))))))))))
       ·
        refine wl_on rfl (congrArg Value.bool c128) (wl_ok (r_move (v := v41) rfl) (wl_on rfl (congrArg Value.bool c128) (wl_ok (r_move (v := u3) rfl) (wl_on rfl (congrArg Value.bool c128) ?_))))
        obtain ⟨y129, e130, hs⟩ := o_bind hs
        refine w_call fnOk35 rfl rfl (place_Same_c _ _ h.lt v41 x42 (h.ownS 9 rfl) u3 y1.1 (h.ownS 2 rfl) _ e130) ?_
        rintro _ w ⟨k131, rfl⟩
        refine ⟨_, rfl, ?_⟩
        replace h := h.grow k131
        refine wl_ok (r_pick (b := true) (v := (.bool (y129))) (congrArg Value.bool c128) rfl) (wl_ok (r_move (v := (.bool (y129))) rfl) (c_split (b := y129) hs (fun c132 hs => ?_) (fun c132 hs => ?_)))
        ·
         refine wl_on rfl (congrArg Value.bool c132) (wl_ok (r_move (v := u123) rfl) (wl_on rfl (congrArg Value.bool c132) (wl_ok (r_move (v := va) rfl) (wl_on rfl (congrArg Value.bool c132) (w_callIn (args := [u123, va, (.func (.func 10) #[] #[])]) fnOk23 rfl rfl (calls_start (args := [u123, va, (.func (.func 10) #[] #[])]) Tryd.func23 rfl Tryd.ntmps23 (Nat.le_of_ble_eq_true rfl) (wc_seq (wc_region (wl_ok (r_assign (v := (.bool (false))) rfl) (wl_nil (then_normal (wc_seq (wc_seq (wc_region (wl_ok (r_move (v := u123) rfl) (wl_ok (r_len SliceOf34 rfl (h.ownS 34 rfl)) (wl_ok (r_move (v := va) rfl) (wl_ok (r_len SliceOf34 rfl (h.srS 1 rfl)) (wl_ok (r_neq rfl rfl) (wl_nil (then_normal (wc_ifb hs rfl (fun c133 hs => ?_) (fun c133 hs => ?_)))))))))))))))))))))))
         ·
          refine wc_seq (wc_region (wl_ok (r_assign (v := (.bool (false))) rfl) (wl_nil (then_normal (wc_ret (then_ret (fin1 (v := (.bool (false))) Tryd.results23 rfl (⟨_, rfl, ?_⟩))))))))
          refine wl_ok (r_pick (b := true) (v := (.bool (false))) (congrArg Value.bool c132) rfl) (wl_ok (r_assign (v := (.bool (false))) rfl) (wl_nil (then_normal (wc_ret (fin1 (v := (.bool (false))) Tryd.results7 rfl ?_)))))
          obtain rfl := Option.some.inj hs
          exact ⟨h.grown, rfl⟩
         ·
          refine wc_skip (then_normal (wc_seq (wc_seq (wc_region (wl_ok (r_move (v := u123) rfl) (wl_ok (r_len SliceOf34 rfl (h.ownS 34 rfl)) (wl_ok (r_move (v := (.int .i64 (0))) rfl) (wl_nil (then_normal (wc_block ?_))))))))))
          have hli135 := (h.ownS 34 rfl).len_le
          refine wc_lp (σ := Nat × Int) (inl [6, 7, 8, 9, 17, 18, 19, 20, 21, 22, 23, 24, 25, 26, 27, 28, 29, 30, 31]) (fun ⟨k134, i135⟩ => [(17, (.int .i64 (i135)))]) (fun ⟨k134, i135⟩ w => SH w0 M BE w (hset [(1, .sr rRec va a), (2, .own rCo 83 u3 y1.1), (9, .own rCo 83 v41 x42), (15, .blk b67 [v80, v82]), (22, .rd rByte v80 y81), (23, .rd rByte v82 y83), (32, .rd rByte u119 y117.1.safe), (33, .rd rByte u121 y117.1.wait), (34, .own rRec 24 u123 y117.2.1), (35, .blk b127 [u119, u121])]) ∧ i135 = (k134 : Int) ∧ upto (wandererlaw_PlaceParts_b11 y117 a) wandererlaw_PlaceParts_k12 i135 (((y117.2.1.length : Int)).toNat - k134) () = some r) (fun ⟨k134, i135⟩ => ((y117.2.1.length : Int)).toNat - k134) ⟨0, 0⟩ ⟨rfl, trivial⟩ ?_ ?_
          ·
           exact ⟨h.cn _, rfl, hs⟩
          ·
           rintro ⟨k134, i135⟩ w junk ⟨h, hik, hs⟩
           refine wc_seq (wc_region ?_)
           refine wl_ok (r_lss rfl rfl) (wl_nil (then_normal ?_))
           refine wc_seq (wc_if rfl (fun e139 => ?_) (fun e139 => ?_))
           ·
            refine wc_skip (then_normal ?_)
            rw [upto_lt (by have := of_decide_eq_true e139; omega)] at hs
            generalize hnx138 : upto (wandererlaw_PlaceParts_b11 y117 a) wandererlaw_PlaceParts_k12 (i135 + 1) (((y117.2.1.length : Int)).toNat - (k134 + 1)) = nx138 at hs
            have e140r : I64 (i135 + 1) := (by have := of_decide_eq_true e139; have := hli135; exact I64.mk (by omega) (by omega))
            refine wc_seq (wc_block (wc_seq (wc_region (wl_ok (r_move (v := (.int .i64 (i135))) rfl) ?_))))
            obtain ⟨x141, e142, hs⟩ := o_bind hs
            obtain ⟨b144, q145, i143⟩ := h.ixO 34 rfl SliceOf34 rfl (o_idx e142).1 (o_idx e142).2
            refine wl_ok (i143 _ _ _ _ _ _ _ _ _ rfl rfl) ?_
            obtain ⟨cs146, m147, r148⟩ := h.elO 34 rfl q145 (o_idx e142).2
            obtain ⟨u149, u151, rfl, g150, g152⟩ := rRec_open r148
            replace h := h.knowRd 36 g150
            replace h := h.knowRd 37 g152.up
            refine wl_ok (r_ldAN (k := 0) (vs := [(.int .i64 (x141.kind)), (.int .i64 (x141.co)), (.int .i64 (x141.epoch)), (.int .i64 (x141.place)), u149, u151]) m147 Many24 rfl rfl rfl (Nat.le_of_ble_eq_true rfl)) (w_allocN h 38 Many24 fun w b153 h => wl_ok (r_assign (v := (.int .i64 (i135))) rfl) (w_stN (vs := [(.int .i64 (x141.kind)), (.int .i64 (x141.co)), (.int .i64 (x141.epoch)), (.int .i64 (x141.place)), u149, u151]) h 38 [(.int .i64 (x141.kind)), (.int .i64 (x141.co)), (.int .i64 (x141.epoch)), (.int .i64 (x141.place)), u149, u151] rfl Many24 rfl rfl rfl rfl rfl (ones_cons rfl (ones_cons rfl (ones_cons rfl (ones_cons rfl (ones_cons (h.rdAt 36 rfl).one (ones_cons (h.rdAt 37 rfl).one ones_nil)))))) fun w h => wl_nil (then_normal (wc_seq (wc_region (wl_ok (r_move (v := va) rfl) (wl_ok (r_move (v := (.int .i64 (i135))) rfl) ?_)))))))
            obtain ⟨x154, e155, hs⟩ := o_bind hs
            obtain ⟨b157, o158, cs159, h, r160, i156⟩ := h.ixS 1 39 rfl SliceOf34 rfl (o_idx e155).1 (o_idx e155).2
            obtain ⟨u161, u163, rfl, g162, g164⟩ := rRec_open r160
            replace h := h.knowRd 40 g162.up
            replace h := h.knowRd 41 g164.up.up
            refine wl_ok (i156 _ _ _ _ _ _ _ _ _ rfl rfl) (wl_ok (r_ldPN (k := 0) (vs := [(.int .i64 (x154.kind)), (.int .i64 (x154.co)), (.int .i64 (x154.epoch)), (.int .i64 (x154.place)), u161, u163]) h 39 rfl Many24 rfl rfl rfl (Nat.le_of_ble_eq_true rfl)) (w_allocN h 42 Many24 fun w b165 h => w_stN (vs := [(.int .i64 (x154.kind)), (.int .i64 (x154.co)), (.int .i64 (x154.epoch)), (.int .i64 (x154.place)), u161, u163]) h 42 [(.int .i64 (x154.kind)), (.int .i64 (x154.co)), (.int .i64 (x154.epoch)), (.int .i64 (x154.place)), u161, u163] rfl Many24 rfl rfl rfl rfl rfl (ones_cons rfl (ones_cons rfl (ones_cons rfl (ones_cons rfl (ones_cons (h.rdAt 40 rfl).one (ones_cons (h.rdAt 41 rfl).one ones_nil)))))) fun w h => wl_nil (then_normal (wc_seq (wc_region (wl_ok (r_move (v := (.func (.func 10) #[] #[])) rfl) (wl_ok (r_ldBN (vs := [(.int .i64 (x141.kind)), (.int .i64 (x141.co)), (.int .i64 (x141.epoch)), (.int .i64 (x141.place)), u149, u151]) h 38 rfl Many24 rfl rfl rfl) (wl_ok (r_ldBN (vs := [(.int .i64 (x154.kind)), (.int .i64 (x154.co)), (.int .i64 (x154.epoch)), (.int .i64 (x154.place)), u161, u163]) h 42 rfl Many24 rfl rfl rfl) ?_))))))))
            obtain ⟨y166, e167, hs⟩ := o_bind hs
            refine w_call fnOk10 rfl rfl (record_Same_c _ _ h.lt x141 u149 u151 (h.rdS 36 rfl) (h.rdS 37 rfl) x154 u161 u163 (h.rdS 40 rfl) (h.rdS 41 rfl) _ e167) ?_
            rintro _ w ⟨k168, rfl⟩
            refine ⟨_, rfl, ?_⟩
            replace h := h.grow k168
            refine wl_ok (r_notb rfl) (wl_nil (then_normal (wc_ifb hs rfl (fun c169 hs => ?_) (fun c169 hs => ?_))))
            ·
             refine wc_seq (wc_region (wl_ok (r_assign (v := (.bool (false))) rfl) (wl_nil (then_normal (wc_ret (inBlock_ret (then_ret (then_ret (inBlock_ret (then_ret (fin1 (v := (.bool (false))) Tryd.results23 rfl (⟨_, rfl, ?_⟩))))))))))))
             refine wl_ok (r_pick (b := true) (v := (.bool (false))) (congrArg Value.bool c132) rfl) (wl_ok (r_assign (v := (.bool (false))) rfl) (wl_nil (then_normal (wc_ret (fin1 (v := (.bool (false))) Tryd.results7 rfl ?_)))))
             obtain rfl := Option.some.inj hs
             exact ⟨h.grown, rfl⟩
            ·
             refine wc_skip (inBlock_normal (then_normal (wc_region (wl_ok (r_add rfl rfl e140r) (wl_ok (r_move (v := (.int .i64 ((i135 + 1)))) rfl) (wl_nil (then_loop ?_)))))))
             subst hnx138
             exact lend ⟨k134 + 1, i135 + 1⟩ ⟨h.cn _, by omega, hs⟩ (by have := of_decide_eq_true e139; dsimp only; omega)
           ·
            rw [upto_ge (by have := of_decide_eq_false e139; omega)] at hs
            refine wc_exit (then_exit (then_exit (inBlock_eq (then_normal (wc_seq (wc_region (wl_ok (r_assign (v := (.bool (true))) rfl) (wl_nil (then_normal (wc_ret (fin1 (v := (.bool (true))) Tryd.results23 rfl (⟨_, rfl, ?_⟩))))))))))))
            refine wl_ok (r_pick (b := true) (v := (.bool (true))) (congrArg Value.bool c132) rfl) (wl_ok (r_assign (v := (.bool (true))) rfl) (wl_nil (then_normal (wc_ret (fin1 (v := (.bool (true))) Tryd.results7 rfl ?_)))))
            obtain rfl := Option.some.inj hs
            exact ⟨h.grown, rfl⟩
        ·
         refine wl_off (b' := false) rfl (congrArg Value.bool c132) rfl (wl_off (b' := false) rfl (congrArg Value.bool c132) rfl (wl_off (b' := false) rfl (congrArg Value.bool c132) rfl (wl_ok (r_pick (b := false) (v := (.bool (false))) (congrArg Value.bool c132) rfl) (wl_ok (r_assign (v := (.bool (false))) rfl) (wl_nil (then_normal (wc_ret (fin1 (v := (.bool (false))) Tryd.results7 rfl ?_))))))))
         obtain rfl := Option.some.inj hs
         exact ⟨h.grown, rfl⟩
       ·
        refine wl_off (b' := false) rfl (congrArg Value.bool c128) rfl (wl_off (b' := false) rfl (congrArg Value.bool c128) rfl (wl_off (b' := false) rfl (congrArg Value.bool c128) rfl (wl_ok (r_pick (b := false) (v := (.bool (false))) (congrArg Value.bool c128) rfl) (wl_ok (r_move (v := (.bool (false))) rfl) (wl_off (b' := false) rfl rfl rfl (wl_off (b' := false) rfl rfl rfl (wl_off (b' := false) rfl rfl rfl (wl_ok (r_pick (b := false) (v := (.bool (false))) rfl rfl) (wl_ok (r_assign (v := (.bool (false))) rfl) (wl_nil (then_normal (wc_ret (fin1 (v := (.bool (false))) Tryd.results7 rfl ?_)))))))))))))
        obtain rfl := Option.some.inj hs
        exact ⟨h.grown, rfl⟩
end Go.Proofs.YthlibjllfckhjaaDoor
