/-
  Functions of the program, each as plain Lean, and that the code does just that.
-/
import Derived.Test.YtkjajililnbimaaProg
import Derived.Test.YtkjajililnbimaaLiftB
import Derived.Test.YtkjajililnbimaaPlcStrs
import Derived.Test.YtkjajililnbimaaPlcLays
set_option linter.unusedSimpArgs false
set_option linter.unusedVariables false
set_option maxRecDepth 10000
namespace Go.Proofs.Ytkjajililnbimaa
open Go Go.Proofs Go.LX
theorem ElemOf24 : ElemOf Try.prog 24 3 1 8 := ⟨Try.underlying24, elem_of (z := (.int .i64 (0))) (by kernel_rfl) rfl⟩
theorem ElemOf59 : ElemOf Try.prog 59 66 4 48 := ⟨Try.underlying59, elem_of (z := (.agg #[(.int .i64 (0)), (.int .i64 (0)), (.slice none 0 0), (.int .i64 (0))])) (by kernel_rfl) rfl⟩
theorem Fld61x0 : FieldAt Try.prog 61 0 0 := ⟨_, _, 0, Try.underlying61, rfl, rfl, by kernel_rfl⟩
theorem Fld61x1 : FieldAt Try.prog 61 1 1 := ⟨_, _, 0, Try.underlying61, rfl, rfl, by kernel_rfl⟩
theorem Fld61x2 : FieldAt Try.prog 61 2 2 := ⟨_, _, 0, Try.underlying61, rfl, rfl, by kernel_rfl⟩
theorem Fld61x3 : FieldAt Try.prog 61 3 3 := ⟨_, _, 0, Try.underlying61, rfl, rfl, by kernel_rfl⟩
theorem Fld61x4 : FieldAt Try.prog 61 4 4 := ⟨_, _, 0, Try.underlying61, rfl, rfl, by kernel_rfl⟩
theorem Fld61x5 : FieldAt Try.prog 61 5 5 := ⟨_, _, 0, Try.underlying61, rfl, rfl, by kernel_rfl⟩
theorem Fld66x0 : FieldAt Try.prog 66 0 0 := ⟨_, _, 0, Try.underlying66, rfl, rfl, by kernel_rfl⟩
theorem Fld66x1 : FieldAt Try.prog 66 1 1 := ⟨_, _, 0, Try.underlying66, rfl, rfl, by kernel_rfl⟩
theorem Fld66x2 : FieldAt Try.prog 66 2 2 := ⟨_, _, 0, Try.underlying66, rfl, rfl, by kernel_rfl⟩
theorem Fld66x3 : FieldAt Try.prog 66 3 3 := ⟨_, _, 0, Try.underlying66, rfl, rfl, by kernel_rfl⟩
theorem fnOk100 : FnOk Try.prog 100 := ⟨_, Try.func100, by kernel_rfl, rfl⟩
theorem fnOk101 : FnOk Try.prog 101 := ⟨_, Try.func101, by kernel_rfl, rfl⟩
theorem fnOk102 : FnOk Try.prog 102 := ⟨_, Try.func102, by kernel_rfl, rfl⟩
theorem fnOk103 : FnOk Try.prog 103 := ⟨_, Try.func103, by kernel_rfl, rfl⟩
theorem fnOk104 : FnOk Try.prog 104 := ⟨_, Try.func104, by kernel_rfl, rfl⟩
theorem fnOk109 : FnOk Try.prog 109 := ⟨_, Try.func109, by kernel_rfl, rfl⟩
theorem fnOk115 : FnOk Try.prog 115 := ⟨_, Try.func115, by kernel_rfl, rfl⟩
theorem fnOk14 : FnOk Try.prog 14 := ⟨_, Try.func14, by kernel_rfl, rfl⟩
theorem fnOk38 : FnOk Try.prog 38 := ⟨_, Try.func38, by kernel_rfl, rfl⟩
theorem fnOk39 : FnOk Try.prog 39 := ⟨_, Try.func39, by kernel_rfl, rfl⟩
theorem fnOk40 : FnOk Try.prog 40 := ⟨_, Try.func40, by kernel_rfl, rfl⟩
theorem fnOk41 : FnOk Try.prog 41 := ⟨_, Try.func41, by kernel_rfl, rfl⟩
theorem fnOk42 : FnOk Try.prog 42 := ⟨_, Try.func42, by kernel_rfl, rfl⟩
theorem fnOk54 : FnOk Try.prog 54 := ⟨_, Try.func54, by kernel_rfl, rfl⟩
theorem fnOk55 : FnOk Try.prog 55 := ⟨_, Try.func55, by kernel_rfl, rfl⟩
theorem fnOk56 : FnOk Try.prog 56 := ⟨_, Try.func56, by kernel_rfl, rfl⟩
theorem fnOk57 : FnOk Try.prog 57 := ⟨_, Try.func57, by kernel_rfl, rfl⟩
theorem fnOk58 : FnOk Try.prog 58 := ⟨_, Try.func58, by kernel_rfl, rfl⟩
theorem fnOk59 : FnOk Try.prog 59 := ⟨_, Try.func59, by kernel_rfl, rfl⟩
theorem fnOk60 : FnOk Try.prog 60 := ⟨_, Try.func60, by kernel_rfl, rfl⟩
theorem fnOk64 : FnOk Try.prog 64 := ⟨_, Try.func64, by kernel_rfl, rfl⟩
theorem fnOk75 : FnOk Try.prog 75 := ⟨_, Try.func75, by kernel_rfl, rfl⟩
theorem fnOk76 : FnOk Try.prog 76 := ⟨_, Try.func76, by kernel_rfl, rfl⟩
theorem fnOk77 : FnOk Try.prog 77 := ⟨_, Try.func77, by kernel_rfl, rfl⟩
theorem fnOk78 : FnOk Try.prog 78 := ⟨_, Try.func78, by kernel_rfl, rfl⟩
theorem fnOk79 : FnOk Try.prog 79 := ⟨_, Try.func79, by kernel_rfl, rfl⟩
theorem fnOk80 : FnOk Try.prog 80 := ⟨_, Try.func80, by kernel_rfl, rfl⟩
theorem fnOk81 : FnOk Try.prog 81 := ⟨_, Try.func81, by kernel_rfl, rfl⟩
theorem fnOk82 : FnOk Try.prog 82 := ⟨_, Try.func82, by kernel_rfl, rfl⟩
theorem Many61 : Many Try.prog 61 [(.int .i64 (0)), (.int .i64 (0)), (.int .i64 (0)), (.int .i64 (0)), (.slice none 0 0), (.slice none 0 0)] := ⟨⟨_, Try.underlying61, trivial⟩, by kernel_rfl⟩
theorem Many66 : Many Try.prog 66 [(.int .i64 (0)), (.int .i64 (0)), (.slice none 0 0), (.int .i64 (0))] := ⟨⟨_, Try.underlying66, trivial⟩, by kernel_rfl⟩
theorem MapOf134 : MapOf Try.prog 134 (strV []) := ⟨_, _, Try.underlying134, Try.underlying3, by kernel_rfl⟩
theorem One24 : One Try.prog 24 (.slice none 0 0) := ⟨⟨_, Try.underlying24, trivial⟩, by kernel_rfl, rfl⟩
theorem One3 : One Try.prog 3 (.int .i64 (0)) := ⟨⟨_, Try.underlying3, trivial⟩, by kernel_rfl, rfl⟩
theorem One9 : One Try.prog 9 (strV []) := ⟨⟨_, Try.underlying9, trivial⟩, by kernel_rfl, rfl⟩
theorem Over105 : OverFn Try.prog 105 59 4 := ⟨fun args w => run_callFunc_extern Try.func105 (by kernel_rfl) (by kernel_rfl) (by kernel_rfl) (e := Extern.SlicesOverlaps.overlaps #[59, 59] #[4]) (by kernel_rfl) args w⟩
theorem PtrTo108 : PtrTo Try.prog 108 := ⟨_, Try.underlying108⟩
theorem SliceOf24 : SliceOf Try.prog 24 3 1 := ⟨Try.underlying24, by kernel_rfl⟩
theorem SliceOf59 : SliceOf Try.prog 59 66 4 := ⟨Try.underlying59, by kernel_rfl⟩
theorem SliceOf89 : SliceOf Try.prog 89 61 6 := ⟨Try.underlying89, by kernel_rfl⟩
theorem Struct61 : Struct Try.prog 61 [(.int .i64 (0)), (.int .i64 (0)), (.int .i64 (0)), (.int .i64 (0)), (.slice none 0 0), (.slice none 0 0)] [(0, 1), (1, 1), (2, 1), (3, 1), (4, 1), (5, 1)] := ⟨by kernel_rfl, _, Try.underlying61, by kernel_rfl⟩
theorem Struct66 : Struct Try.prog 66 [(.int .i64 (0)), (.int .i64 (0)), (.slice none 0 0), (.int .i64 (0))] [(0, 1), (1, 1), (2, 1), (3, 1)] := ⟨by kernel_rfl, _, Try.underlying66, by kernel_rfl⟩
theorem ZeroOne66 : ZeroOne Try.prog 66 := ⟨(.agg #[(.int .i64 (0)), (.int .i64 (0)), (.slice none 0 0), (.int .i64 (0))]), by kernel_rfl, by kernel_rfl⟩
theorem mixed : Try.prog.follows .mixedOrders = true := by kernel_rfl
def place_Check_j10 (nx6 : Unit → Option Int) (x19 : Bool) : Option Int :=
  bif x19 then some 6 else nx6 ()
def place_Check_b11 (a : List Co) (i3 : Int) (x4 : Co) (s : Unit) (nx6 : Unit → Option Int) : Option Int :=
  bif (((((decide ((x4.id_ : Int) < 0) || decide ((3 : Int) ≤ x4.id_)) || decide ((x4.epoch : Int) < 1)) || decide ((100 : Int) < x4.epoch)) || decide ((x4.offered : Int) < -1)) || decide ((3 : Int) ≤ x4.offered)) then some 3 else bif (decide (((x4.image.length : Int) : Int) = 0) || decide ((1200 : Int) < (x4.image.length : Int))) then some 2 else bif decide ((0 : Int) < i3) then grd (I64 (i3 - 1)) ((idx a (i3 - 1)).bind fun x23 => place_Check_j10 nx6 (decide ((x4.id_ : Int) ≤ x23.id_))) else place_Check_j10 nx6 false
def place_Check_k12 (s : Unit) : Option Int :=
  some 0
def place_Check (a : List Co) : Option Int :=
  bif decide ((3 : Int) < (a.length : Int)) then some 2 else eachI (place_Check_b11 a) place_Check_k12 0 a ()
theorem place_Check_c (w0 : World) (M : BS) (hM : ∀ b, M b → b < w0.heap.size) (va : Value) (a : List Co) (ha : Rd2 rCo w0 BE M va a) (r : Int) (hs : place_Check a = some r) :
    Calls Try.prog 40 #[va] w0 (fun e w' => Grow w0 w' ∧ e = .returned (.int .i64 r)) := by
 refine calls_start (args := [va]) Try.func40 rfl Try.ntmps40 (Nat.le_of_ble_eq_true rfl) ?_
 have h := SH.init hM
 replace h := h.argSr 1 ha none_own
 have hl_a := ha.len_le
 refine wc_seq (wc_region (wl_ok (r_assign (v := (.int .i64 (0))) rfl) (wl_nil (then_normal (wc_seq (wc_seq (wc_region (wl_ok (r_move (v := va) rfl) (wl_ok (r_len SliceOf59 rfl (h.srS 1 rfl)) (wl_ok (r_gtr rfl rfl) (wl_nil (then_normal (wc_ifb hs rfl (fun c1 hs => ?_) (fun c1 hs => ?_))))))))))))))
 ·
  refine wc_seq (wc_region (wl_ok (r_assign (v := (.int .i64 (2))) rfl) (wl_nil (then_normal (wc_ret (then_ret (fin1 (v := (.int .i64 (2))) Try.results40 rfl ?_)))))))
  obtain rfl := Option.some.inj hs
  exact ⟨h.grown, rfl⟩
 ·
  refine wc_skip (then_normal (wc_seq (wc_seq (wc_region (wl_ok (r_move (v := va) rfl) (wl_ok (r_len SliceOf59 rfl (h.srS 1 rfl)) (wl_ok (r_move (v := (.int .i64 (0))) rfl) (wl_nil (then_normal (wc_block (wc_lp (σ := Nat × Int) (inl [2, 3, 4, 10, 11, 12, 13, 14, 15, 16, 17, 18, 19, 20, 21, 22, 23, 24, 25, 26, 27, 28, 29, 30, 31, 32, 33, 34, 35, 36, 37, 38, 39, 40, 41, 42, 43, 44, 45, 46, 47, 48, 49, 50, 51, 52, 53, 54, 55, 56, 57, 58, 59, 60, 61, 62, 63, 64, 65, 66]) (fun ⟨k2, i3⟩ => [(10, (.int .i64 (i3)))]) (fun ⟨k2, i3⟩ w => SH w0 M BE w (hset [(1, .sr rCo va a)]) ∧ i3 = (k2 : Int) ∧ eachI (place_Check_b11 a) place_Check_k12 i3 (a.drop k2) () = some r) (fun ⟨k2, i3⟩ => a.length - k2) ⟨0, 0⟩ ⟨rfl, trivial⟩ ?_ ?_)))))))))))
  ·
   exact ⟨h.cn _, rfl, hs⟩
  ·
   rintro ⟨k2, i3⟩ w junk ⟨h, hik, hs⟩
   refine wc_seq (wc_region ?_)
   refine wl_ok (r_lss rfl rfl) (wl_nil (then_normal ?_))
   refine wc_seq (wc_if rfl (fun e7 => ?_) (fun e7 => ?_))
   ·
    refine wc_skip (then_normal ?_)
    obtain ⟨x4, e8a, e8b⟩ := drop_lt (hik ▸ e7)
    rw [e8b, eachI_cons] at hs
    generalize hnx6 : eachI (place_Check_b11 a) place_Check_k12 (i3 + 1) (a.drop (k2 + 1)) = nx6 at hs
    have e8r := nat_rng ((h.srS 1 rfl)).len_le hik e7
    refine wc_seq (wc_block (wc_seq (wc_region (wl_ok (r_move (v := (.int .i64 (i3))) rfl) ?_))))
    obtain ⟨b10, o11, cs12, h, r13, i9⟩ := h.ixS 1 2 rfl SliceOf59 rfl (nat_nn hik) (get_nat hik e8a)
    obtain ⟨u14, rfl, g15⟩ := rCo_open r13
    replace h := h.knowRd 3 g15.up
    refine wl_ok (i9 _ _ _ _ _ _ _ _ _ rfl rfl) (wl_ok (r_ldPN (k := 0) (vs := [(.int .i64 (x4.id_)), (.int .i64 (x4.epoch)), u14, (.int .i64 (x4.offered))]) h 2 rfl Many66 rfl rfl rfl (Nat.le_of_ble_eq_true rfl)) (w_allocN h 4 Many66 fun w b16 h => wl_ok (r_assign (v := (.int .i64 (i3))) rfl) (w_stN (vs := [(.int .i64 (x4.id_)), (.int .i64 (x4.epoch)), u14, (.int .i64 (x4.offered))]) h 4 [(.int .i64 (x4.id_)), (.int .i64 (x4.epoch)), u14, (.int .i64 (x4.offered))] rfl Many66 rfl rfl rfl rfl rfl (ones_cons rfl (ones_cons rfl (ones_cons (h.rdAt 3 rfl).one (ones_cons rfl ones_nil)))) fun w h => wl_nil (then_normal (wc_seq (wc_seq (wc_region (wl_ok (r_fieldAddr Fld66x0 rfl) (wl_ok (r_ldB h 4 rfl One3 rfl rfl) (wl_ok (r_lss rfl rfl) (wl_ok (r_move (v := (.bool (decide ((x4.id_ : Int) < 0)))) rfl) (wl_gd0 rfl rfl (fun q => r_fieldAddr Fld66x0 rfl) (wl_gd0 rfl rfl (fun q => r_ldB h 4 rfl One3 (gvt q) rfl) (wl_gd0 rfl rfl (fun q => r_geq (gvt q) rfl) (wl_ok (r_por rfl rfl evc) (wl_ok (r_move (v := (.bool ((decide ((x4.id_ : Int) < 0) || decide ((3 : Int) ≤ x4.id_))))) rfl) (wl_gd0 rfl rfl (fun q => r_fieldAddr Fld66x1 rfl) (wl_gd0 rfl rfl (fun q => r_ldB h 4 rfl One3 (gvt q) rfl) (wl_gd0 rfl rfl (fun q => r_lss (gvt q) rfl) (wl_ok (r_por rfl rfl evc) (wl_ok (r_move (v := (.bool (((decide ((x4.id_ : Int) < 0) || decide ((3 : Int) ≤ x4.id_)) || decide ((x4.epoch : Int) < 1))))) rfl) ?_)))))))))))))))))))))
    refine wl_gd0 rfl rfl (fun q => r_fieldAddr Fld66x1 rfl) (wl_gd0 rfl rfl (fun q => r_ldB h 4 rfl One3 (gvt q) rfl) (wl_gd0 rfl rfl (fun q => r_gtr (gvt q) rfl) (wl_ok (r_por rfl rfl evc) (wl_ok (r_move (v := (.bool ((((decide ((x4.id_ : Int) < 0) || decide ((3 : Int) ≤ x4.id_)) || decide ((x4.epoch : Int) < 1)) || decide ((100 : Int) < x4.epoch))))) rfl) (wl_gd0 rfl rfl (fun q => r_fieldAddr Fld66x3 rfl) (wl_gd0 rfl rfl (fun q => r_ldB h 4 rfl One3 (gvt q) rfl) (wl_gd0 rfl rfl (fun q => r_lss (gvt q) rfl) (wl_ok (r_por rfl rfl evc) (wl_ok (r_move (v := (.bool (((((decide ((x4.id_ : Int) < 0) || decide ((3 : Int) ≤ x4.id_)) || decide ((x4.epoch : Int) < 1)) || decide ((100 : Int) < x4.epoch)) || decide ((x4.offered : Int) < -1))))) rfl) (wl_gd0 rfl rfl (fun q => r_fieldAddr Fld66x3 rfl) (wl_gd0 rfl rfl (fun q => r_ldB h 4 rfl One3 (gvt q) rfl) (wl_gd0 rfl rfl (fun q => r_geq (gvt q) rfl) (wl_ok (r_por rfl rfl evc) (wl_nil (then_normal (wc_ifb hs rfl (fun c17 hs => ?_) (fun c17 hs => ?_)))))))))))))))))
    ·
     refine wc_seq (wc_region (wl_ok (r_assign (v := (.int .i64 (3))) rfl) (wl_nil (then_normal (wc_ret (then_ret (inBlock_ret (then_ret (then_ret (inBlock_ret (then_ret (fin1 (v := (.int .i64 (3))) Try.results40 rfl ?_))))))))))))
     obtain rfl := Option.some.inj hs
     exact ⟨h.grown, rfl⟩
    ·
     refine wc_skip (then_normal (wc_seq (wc_seq (wc_region (wl_ok (r_fieldAddr Fld66x2 rfl) (wl_ok (r_ldB h 4 rfl One24 rfl rfl) (wl_ok (r_len SliceOf24 rfl (h.rdS 3 rfl)) (wl_ok (r_eql rfl rfl) (wl_ok (r_move (v := (.bool (decide (((x4.image.length : Int) : Int) = 0)))) rfl) (wl_gd0 rfl rfl (fun q => r_fieldAddr Fld66x2 rfl) (wl_gd0 rfl rfl (fun q => r_ldB h 4 rfl One24 (gvt q) rfl) (wl_gd0 rfl rfl (fun q => r_len SliceOf24 (gvt q) (h.rdS 3 rfl)) (wl_gd0 rfl rfl (fun q => r_gtr (gvt q) rfl) (wl_ok (r_por rfl rfl evc) (wl_nil (then_normal (wc_ifb hs rfl (fun c18 hs => ?_) (fun c18 hs => ?_))))))))))))))))))
     ·
      refine wc_seq (wc_region (wl_ok (r_assign (v := (.int .i64 (2))) rfl) (wl_nil (then_normal (wc_ret (then_ret (inBlock_ret (then_ret (then_ret (inBlock_ret (then_ret (fin1 (v := (.int .i64 (2))) Try.results40 rfl ?_))))))))))))
      obtain rfl := Option.some.inj hs
      exact ⟨h.grown, rfl⟩
     ·
      refine wc_skip (then_normal (wc_join (σ := Bool) (inl [53, 54, 55, 56, 57, 58, 59, 60, 61, 62, 63, 64, 65]) (fun x19 => [(65, (.bool (x19)))]) (fun x19 w => SH w0 M BE w (hset [(1, .sr rCo va a), (3, .rd rInt u14 x4.image), (4, .blk b16 [(.int .i64 (x4.id_)), (.int .i64 (x4.epoch)), u14, (.int .i64 (x4.offered))])]) ∧ place_Check_j10 nx6 x19 = some r) ?_ ?_))
      ·
       rintro x19 w junk ⟨h, hs⟩
       refine wc_ifb hs rfl (fun c20 hs => ?_) (fun c20 hs => ?_)
       ·
        refine wc_seq (wc_region (wl_ok (r_assign (v := (.int .i64 (6))) rfl) (wl_nil (then_normal (wc_ret (inBlock_ret (then_ret (then_ret (inBlock_ret (then_ret (fin1 (v := (.int .i64 (6))) Try.results40 rfl ?_)))))))))))
        obtain rfl := Option.some.inj hs
        exact ⟨h.grown, rfl⟩
       ·
        refine wc_skip (inBlock_normal (then_normal (wc_region (wl_ok (r_add rfl rfl e8r) (wl_ok (r_move (v := (.int .i64 ((i3 + 1)))) rfl) (wl_nil (then_loop ?_)))))))
        subst hnx6
        exact lend ⟨k2 + 1, i3 + 1⟩ ⟨h.cn _, by omega, hs⟩ (by have := of_decide_eq_true e7; dsimp only; omega)
      ·
       refine wc_still mixed (by kernel_rfl) h fun w h => wk_ok (r_move (v := (.int .i64 (i3))) rfl) (wk_ok (r_gtr rfl rfl) (wk_ok (r_move (v := (.bool (decide ((0 : Int) < i3)))) rfl) (c_split (b := decide ((0 : Int) < i3)) hs (fun c21 hs => ?_) (fun c21 hs => ?_))))
       ·
        refine wk_on rfl (congrArg Value.bool c21) (wk_ok (r_move (v := va) rfl) (wk_on rfl (congrArg Value.bool c21) (wk_ok (r_move (v := (.int .i64 (i3))) rfl) (wk_on rfl (congrArg Value.bool c21) ?_))))
        obtain ⟨a22, hs⟩ := o_grd hs
        refine wk_ok (r_sub rfl rfl a22) (wk_on rfl (congrArg Value.bool c21) ?_)
        obtain ⟨x23, e24, hs⟩ := o_bind hs
        obtain ⟨b26, o27, cs28, h, r29, i25⟩ := h.ixS 1 5 rfl SliceOf59 rfl (o_idx e24).1 (o_idx e24).2
        obtain ⟨u30, rfl, g31⟩ := rCo_open r29
        replace h := h.knowRd 6 g31.up
        refine wk_ok (i25 _ _ _ _ _ _ _ _ _ rfl rfl) (wk_on rfl (congrArg Value.bool c21) (wk_ok (r_fieldAddr Fld66x0 rfl) (wk_on rfl (congrArg Value.bool c21) (wk_ok (r_ldP (k := 0) h 5 rfl One3 rfl rfl) (wk_on rfl (congrArg Value.bool c21) (wk_ok (r_fieldAddr Fld66x0 rfl) (wk_on rfl (congrArg Value.bool c21) (wk_ok (r_ldB h 4 rfl One3 rfl rfl) (wk_on rfl (congrArg Value.bool c21) (wk_ok (r_geq rfl rfl) (wk_ok (r_pick (b := true) (v := (.bool (decide ((x4.id_ : Int) ≤ x23.id_)))) (congrArg Value.bool c21) rfl) (wk_end (then_loop ?_)))))))))))))
        exact jend (decide ((x4.id_ : Int) ≤ x23.id_)) ⟨h.cn _, hs⟩
       ·
        refine wk_off (b' := false) rfl (congrArg Value.bool c21) rfl (wk_off (b' := false) rfl (congrArg Value.bool c21) rfl (wk_off (b' := false) rfl (congrArg Value.bool c21) rfl (wk_off (b' := false) rfl (congrArg Value.bool c21) rfl (wk_off (b' := false) rfl (congrArg Value.bool c21) rfl (wk_off (b' := false) rfl (congrArg Value.bool c21) rfl (wk_off (b' := false) rfl (congrArg Value.bool c21) rfl (wk_off (b' := false) rfl (congrArg Value.bool c21) rfl (wk_off (b' := false) rfl (congrArg Value.bool c21) rfl (wk_ok (r_pick (b := false) (v := (.bool (false))) (congrArg Value.bool c21) rfl) (wk_end (then_loop ?_)))))))))))
        exact jend false ⟨h.cn _, hs⟩
   ·
    rw [drop_ge (hik ▸ e7), eachI_nil] at hs
    refine wc_exit (then_exit (then_exit (inBlock_eq (then_normal (wc_seq (wc_region (wl_ok (r_assign (v := (.int .i64 (0))) rfl) (wl_nil (then_normal (wc_ret (fin1 (v := (.int .i64 (0))) Try.results40 rfl ?_)))))))))))
    obtain rfl := Option.some.inj hs
    exact ⟨h.grown, rfl⟩
def record_Check (a : Rec) : Int :=
  bif (decide ((a.kind : Int) < 1) || decide ((5 : Int) < a.kind)) then 4 else bif (((((decide ((a.co : Int) < 0) || decide ((3 : Int) ≤ a.co)) || decide ((a.epoch : Int) < 0)) || decide ((100 : Int) < a.epoch)) || decide ((a.place : Int) < 0)) || decide ((3 : Int) ≤ a.place)) then 3 else bif (decide ((40 : Int) < (a.says.length : Int)) || decide ((1200 : Int) < (a.image.length : Int))) then 2 else bif ((((decide ((a.kind : Int) ≠ 3) && decide ((a.place : Int) ≠ 0)) || (decide ((a.kind : Int) ≠ 2) && decide ((0 : Int) < (a.says.length : Int)))) || (((decide ((a.kind : Int) = 1) || decide ((a.kind : Int) = 2)) || decide ((a.kind : Int) = 4)) != decide ((0 : Int) < (a.image.length : Int)))) || decide ((a.epoch : Int) = 0)) then 4 else 0
theorem record_Check_c (w0 : World) (M : BS) (hM : ∀ b, M b → b < w0.heap.size) (a : Rec) (va4 va5 : Value) (ha4 : Rd2 rInt w0 BE M va4 a.says) (ha5 : Rd2 rInt w0 BE M va5 a.image) (r : Int) (hs : record_Check a = r) :
    Calls Try.prog 75 #[(.agg #[(.int .i64 (a.kind)), (.int .i64 (a.co)), (.int .i64 (a.epoch)), (.int .i64 (a.place)), va4, va5])] w0 (fun e w' => Grow w0 w' ∧ e = .returned (.int .i64 r)) := by
 refine calls_start (args := [(.agg #[(.int .i64 (a.kind)), (.int .i64 (a.co)), (.int .i64 (a.epoch)), (.int .i64 (a.place)), va4, va5])]) Try.func75 rfl Try.ntmps75 (Nat.le_of_ble_eq_true rfl) ?_
 have h := SH.init hM
 replace h := h.argSr 1 ha4 none_own
 replace h := h.argSr 2 ha5 (hupd_own_sr none_own)
 refine wc_seq (wc_region (w_box (cs := [(.int .i64 (a.kind)), (.int .i64 (a.co)), (.int .i64 (a.epoch)), (.int .i64 (a.place)), va4, va5]) h 3 rfl rfl fun w b1 h => wl_ok (r_assign (v := (.int .i64 (0))) rfl) (wl_nil (then_normal (wc_seq (wc_seq (wc_region (wl_ok (r_fieldAddr Fld61x0 rfl) (wl_ok (r_ldB h 3 rfl One3 rfl rfl) (wl_ok (r_lss rfl rfl) (wl_ok (r_move (v := (.bool (decide ((a.kind : Int) < 1)))) rfl) (wl_gd0 rfl rfl (fun q => r_fieldAddr Fld61x0 rfl) (wl_gd0 rfl rfl (fun q => r_ldB h 3 rfl One3 (gvt q) rfl) (wl_gd0 rfl rfl (fun q => r_gtr (gvt q) rfl) (wl_ok (r_por rfl rfl evc) (wl_nil (then_normal (wc_ifb hs rfl (fun c2 hs => ?_) (fun c2 hs => ?_)))))))))))))))))))
 ·
  refine wc_seq (wc_region (wl_ok (r_assign (v := (.int .i64 (4))) rfl) (wl_nil (then_normal (wc_ret (then_ret (fin1 (v := (.int .i64 (4))) Try.results75 rfl ?_)))))))
  obtain rfl := hs
  exact ⟨h.grown, rfl⟩
 ·
  refine wc_skip (then_normal (wc_seq (wc_seq (wc_region (wl_ok (r_fieldAddr Fld61x1 rfl) (wl_ok (r_ldB h 3 rfl One3 rfl rfl) (wl_ok (r_lss rfl rfl) (wl_ok (r_move (v := (.bool (decide ((a.co : Int) < 0)))) rfl) (wl_gd0 rfl rfl (fun q => r_fieldAddr Fld61x1 rfl) (wl_gd0 rfl rfl (fun q => r_ldB h 3 rfl One3 (gvt q) rfl) (wl_gd0 rfl rfl (fun q => r_geq (gvt q) rfl) (wl_ok (r_por rfl rfl evc) (wl_ok (r_move (v := (.bool ((decide ((a.co : Int) < 0) || decide ((3 : Int) ≤ a.co))))) rfl) (wl_gd0 rfl rfl (fun q => r_fieldAddr Fld61x2 rfl) (wl_gd0 rfl rfl (fun q => r_ldB h 3 rfl One3 (gvt q) rfl) (wl_gd0 rfl rfl (fun q => r_lss (gvt q) rfl) (wl_ok (r_por rfl rfl evc) (wl_ok (r_move (v := (.bool (((decide ((a.co : Int) < 0) || decide ((3 : Int) ≤ a.co)) || decide ((a.epoch : Int) < 0))))) rfl) (wl_gd0 rfl rfl (fun q => r_fieldAddr Fld61x2 rfl) (wl_gd0 rfl rfl (fun q => r_ldB h 3 rfl One3 (gvt q) rfl) (wl_gd0 rfl rfl (fun q => r_gtr (gvt q) rfl) (wl_ok (r_por rfl rfl evc) (wl_ok (r_move (v := (.bool ((((decide ((a.co : Int) < 0) || decide ((3 : Int) ≤ a.co)) || decide ((a.epoch : Int) < 0)) || decide ((100 : Int) < a.epoch))))) rfl) ?_)))))))))))))))))))))))
  refine wl_gd0 rfl rfl (fun q => r_fieldAddr Fld61x3 rfl) (wl_gd0 rfl rfl (fun q => r_ldB h 3 rfl One3 (gvt q) rfl) (wl_gd0 rfl rfl (fun q => r_lss (gvt q) rfl) (wl_ok (r_por rfl rfl evc) (wl_ok (r_move (v := (.bool (((((decide ((a.co : Int) < 0) || decide ((3 : Int) ≤ a.co)) || decide ((a.epoch : Int) < 0)) || decide ((100 : Int) < a.epoch)) || decide ((a.place : Int) < 0))))) rfl) (wl_gd0 rfl rfl (fun q => r_fieldAddr Fld61x3 rfl) (wl_gd0 rfl rfl (fun q => r_ldB h 3 rfl One3 (gvt q) rfl) (wl_gd0 rfl rfl (fun q => r_geq (gvt q) rfl) (wl_ok (r_por rfl rfl evc) (wl_nil (then_normal (wc_ifb hs rfl (fun c3 hs => ?_) (fun c3 hs => ?_))))))))))))
  ·
   refine wc_seq (wc_region (wl_ok (r_assign (v := (.int .i64 (3))) rfl) (wl_nil (then_normal (wc_ret (then_ret (fin1 (v := (.int .i64 (3))) Try.results75 rfl ?_)))))))
   obtain rfl := hs
   exact ⟨h.grown, rfl⟩
  ·
   refine wc_skip (then_normal (wc_seq (wc_seq (wc_region (wl_ok (r_fieldAddr Fld61x4 rfl) (wl_ok (r_ldB h 3 rfl One24 rfl rfl) (wl_ok (r_len SliceOf24 rfl (h.srS 1 rfl)) (wl_ok (r_gtr rfl rfl) (wl_ok (r_move (v := (.bool (decide ((40 : Int) < (a.says.length : Int))))) rfl) (wl_gd0 rfl rfl (fun q => r_fieldAddr Fld61x5 rfl) (wl_gd0 rfl rfl (fun q => r_ldB h 3 rfl One24 (gvt q) rfl) (wl_gd0 rfl rfl (fun q => r_len SliceOf24 (gvt q) (h.srS 2 rfl)) (wl_gd0 rfl rfl (fun q => r_gtr (gvt q) rfl) (wl_ok (r_por rfl rfl evc) (wl_nil (then_normal (wc_ifb hs rfl (fun c4 hs => ?_) (fun c4 hs => ?_))))))))))))))))))
   ·
    refine wc_seq (wc_region (wl_ok (r_assign (v := (.int .i64 (2))) rfl) (wl_nil (then_normal (wc_ret (then_ret (fin1 (v := (.int .i64 (2))) Try.results75 rfl ?_)))))))
    obtain rfl := hs
    exact ⟨h.grown, rfl⟩
   ·
    refine wc_skip (then_normal (wc_seq (wc_region (wl_ok (r_fieldAddr Fld61x0 rfl) (wl_ok (r_ldB h 3 rfl One3 rfl rfl) (wl_ok (r_eql rfl rfl) (wl_ok (r_move (v := (.bool (decide ((a.kind : Int) = 1)))) rfl) (wl_gd0 rfl rfl (fun q => r_fieldAddr Fld61x0 rfl) (wl_gd0 rfl rfl (fun q => r_ldB h 3 rfl One3 (gvt q) rfl) (wl_gd0 rfl rfl (fun q => r_eql (gvt q) rfl) (wl_ok (r_por rfl rfl evc) (wl_ok (r_move (v := (.bool ((decide ((a.kind : Int) = 1) || decide ((a.kind : Int) = 2))))) rfl) (wl_gd0 rfl rfl (fun q => r_fieldAddr Fld61x0 rfl) (wl_gd0 rfl rfl (fun q => r_ldB h 3 rfl One3 (gvt q) rfl) (wl_gd0 rfl rfl (fun q => r_eql (gvt q) rfl) (wl_ok (r_por rfl rfl evc) (wl_ok (r_assign (v := (.bool (((decide ((a.kind : Int) = 1) || decide ((a.kind : Int) = 2)) || decide ((a.kind : Int) = 4))))) rfl) (wl_nil (then_normal (wc_seq (wc_seq (wc_region (wl_ok (r_fieldAddr Fld61x0 rfl) ?_)))))))))))))))))))))))
    refine wl_ok (r_ldB h 3 rfl One3 rfl rfl) (wl_ok (r_neq rfl rfl) (wl_ok (r_move (v := (.bool (decide ((a.kind : Int) ≠ 3)))) rfl) (wl_gd0 rfl rfl (fun q => r_fieldAddr Fld61x3 rfl) (wl_gd0 rfl rfl (fun q => r_ldB h 3 rfl One3 (gvt q) rfl) (wl_gd0 rfl rfl (fun q => r_neq (gvt q) rfl) (wl_ok (r_pand rfl rfl evc) (wl_ok (r_move (v := (.bool ((decide ((a.kind : Int) ≠ 3) && decide ((a.place : Int) ≠ 0))))) rfl) (wl_gd0 rfl rfl (fun q => r_fieldAddr Fld61x0 rfl) (wl_gd0 rfl rfl (fun q => r_ldB h 3 rfl One3 (gvt q) rfl) (wl_gd0 rfl rfl (fun q => r_neq (gvt q) rfl) (wl_gd0 rfl rfl (fun q => r_move (v := (.bool (decide ((a.kind : Int) ≠ 2)))) (gvt q)) (wl_gd ((decide ((a.kind : Int) ≠ 3) && decide ((a.place : Int) ≠ 0)) == false) rfl rfl (fun q => r_fieldAddr Fld61x4 rfl) (wl_gd ((decide ((a.kind : Int) ≠ 3) && decide ((a.place : Int) ≠ 0)) == false) rfl rfl (fun q => r_ldB h 3 rfl One24 (gvt q) rfl) (wl_gd ((decide ((a.kind : Int) ≠ 3) && decide ((a.place : Int) ≠ 0)) == false) rfl rfl (fun q => r_len SliceOf24 (gvt q) (h.srS 1 rfl)) (wl_gd ((decide ((a.kind : Int) ≠ 3) && decide ((a.place : Int) ≠ 0)) == false) rfl rfl (fun q => r_gtr (gvt q) rfl) (wl_gd0 rfl rfl (fun q => r_pand (gvt q) (gvn q) evc) (wl_ok (r_por rfl rfl evc) (wl_ok (r_move (v := (.bool (((decide ((a.kind : Int) ≠ 3) && decide ((a.place : Int) ≠ 0)) || (decide ((a.kind : Int) ≠ 2) && decide ((0 : Int) < (a.says.length : Int))))))) rfl) (wl_gd0 rfl rfl (fun q => r_move (v := (.bool (((decide ((a.kind : Int) = 1) || decide ((a.kind : Int) = 2)) || decide ((a.kind : Int) = 4))))) rfl) (wl_gd0 rfl rfl (fun q => r_fieldAddr Fld61x5 rfl) (wl_gd0 rfl rfl (fun q => r_ldB h 3 rfl One24 (gvt q) rfl) (wl_gd0 rfl rfl (fun q => r_len SliceOf24 (gvt q) (h.srS 2 rfl)) (wl_gd0 rfl rfl (fun q => r_gtr (gvt q) rfl) ?_)))))))))))))))))))))))
    refine wl_gd0 rfl rfl (fun q => r_neqb Try.underlying4 (gvt q) (gvt q)) (wl_ok (r_por rfl rfl evc) (wl_ok (r_move (v := (.bool ((((decide ((a.kind : Int) ≠ 3) && decide ((a.place : Int) ≠ 0)) || (decide ((a.kind : Int) ≠ 2) && decide ((0 : Int) < (a.says.length : Int)))) || (((decide ((a.kind : Int) = 1) || decide ((a.kind : Int) = 2)) || decide ((a.kind : Int) = 4)) != decide ((0 : Int) < (a.image.length : Int))))))) rfl) (wl_gd0 rfl rfl (fun q => r_fieldAddr Fld61x2 rfl) (wl_gd0 rfl rfl (fun q => r_ldB h 3 rfl One3 (gvt q) rfl) (wl_gd0 rfl rfl (fun q => r_eql (gvt q) rfl) (wl_ok (r_por rfl rfl evc) (wl_nil (then_normal (wc_ifb hs rfl (fun c5 hs => ?_) (fun c5 hs => ?_))))))))))
    ·
     refine wc_seq (wc_region (wl_ok (r_assign (v := (.int .i64 (4))) rfl) (wl_nil (then_normal (wc_ret (then_ret (fin1 (v := (.int .i64 (4))) Try.results75 rfl ?_)))))))
     obtain rfl := hs
     exact ⟨h.grown, rfl⟩
    ·
     refine wc_skip (then_normal (wc_seq (wc_region (wl_ok (r_assign (v := (.int .i64 (0))) rfl) (wl_nil (then_normal (wc_ret (fin1 (v := (.int .i64 (0))) Try.results75 rfl ?_))))))))
     obtain rfl := hs
     exact ⟨h.grown, rfl⟩
theorem slices_Clone_Co_c (w0 : World) (M : BS) (hM : ∀ b, M b → b < w0.heap.size) (va : Value) (a : List Co) (ha : Rd2 rCo w0 BE M va a) (r : List Co) (hs : clone 48 a = some r) :
    Calls Try.prog 104 #[va] w0 (fun e w' => Grow w0 w' ∧ ∃ u0, e = .returned u0 ∧ OwnSl rCo 66 w' M u0 r ∧ (∀ b, ob u0 b → w0.heap.size ≤ b)) := by
  obtain ⟨hr, hs⟩ := o_grd hs
  cases hs
  refine calls_start (args := [va]) Try.func104 rfl Try.ntmps104 (Nat.le_of_ble_eq_true rfl) ?_
  have h := (SH.init hM).argSr 1 ha none_own
  refine wc_seq (wc_region (wl_ok (r_assign rfl) (wl_nil (then_normal ?_))))
  refine wc_seq (wc_seq (wc_region (wl_ok (r_move rfl) (wl_ok (r_eqnil SliceOf59 rfl (h.srS 1 rfl) rfl) (wl_nil (then_normal ?_))))))
  refine wc_if rfl (fun c => ?_) (fun c => ?_)
  · obtain ⟨c1, c2⟩ := nil_of_isNil (h.srS 1 rfl) c
    refine wc_seq (wc_region (wl_ok (r_assign rfl) (wl_nil (then_normal (wc_ret (then_ret ?_))))))
    refine fin1 (v := .slice none 0 0) Try.results104 rfl ?_
    rw [c2]
    exact ⟨h.grown, _, rfl, OwnSl.nil, fresh_nil⟩
  · refine wc_skip (then_normal ?_)
    refine wc_seq (wc_region ?_)
    refine w_bs (R := rCo) (vs := []) (xs := []) h 2 ElemOf59 rfl rfl rfl trivial rfl fun w u h => ?_
    refine wl_ok (r_move rfl) ?_
    refine w_app (R := rCo) (m := a) h 2 rfl (h.srS 1 rfl) ElemOf59 rfl rfl rfl hr.1 hr.2 fun w u h => ?_
    refine wl_ok (r_assign rfl) (wl_nil (then_normal (wc_ret ?_)))
    refine fin1 (v := u) Try.results104 rfl ?_
    exact ⟨h.grown, _, rfl, (h.outOwn 2 rfl).1, (h.outOwn 2 rfl).2⟩
theorem slices_Clone_int_c (w0 : World) (M : BS) (hM : ∀ b, M b → b < w0.heap.size) (va : Value) (a : List Int) (ha : Rd2 rInt w0 BE M va a) (r : List Int) (hs : clone 8 a = some r) :
    Calls Try.prog 78 #[va] w0 (fun e w' => Grow w0 w' ∧ ∃ u0, e = .returned u0 ∧ OwnSl rInt 3 w' M u0 r ∧ (∀ b, ob u0 b → w0.heap.size ≤ b)) := by
  obtain ⟨hr, hs⟩ := o_grd hs
  cases hs
  refine calls_start (args := [va]) Try.func78 rfl Try.ntmps78 (Nat.le_of_ble_eq_true rfl) ?_
  have h := (SH.init hM).argSr 1 ha none_own
  refine wc_seq (wc_region (wl_ok (r_assign rfl) (wl_nil (then_normal ?_))))
  refine wc_seq (wc_seq (wc_region (wl_ok (r_move rfl) (wl_ok (r_eqnil SliceOf24 rfl (h.srS 1 rfl) rfl) (wl_nil (then_normal ?_))))))
  refine wc_if rfl (fun c => ?_) (fun c => ?_)
  · obtain ⟨c1, c2⟩ := nil_of_isNil (h.srS 1 rfl) c
    refine wc_seq (wc_region (wl_ok (r_assign rfl) (wl_nil (then_normal (wc_ret (then_ret ?_))))))
    refine fin1 (v := .slice none 0 0) Try.results78 rfl ?_
    rw [c2]
    exact ⟨h.grown, _, rfl, OwnSl.nil, fresh_nil⟩
  · refine wc_skip (then_normal ?_)
    refine wc_seq (wc_region ?_)
    refine w_bs (R := rInt) (vs := []) (xs := []) h 2 ElemOf24 rfl rfl rfl trivial rfl fun w u h => ?_
    refine wl_ok (r_move rfl) ?_
    refine w_app (R := rInt) (m := a) h 2 rfl (h.srS 1 rfl) ElemOf24 rfl rfl rfl hr.1 hr.2 fun w u h => ?_
    refine wl_ok (r_assign rfl) (wl_nil (then_normal (wc_ret ?_)))
    refine fin1 (v := u) Try.results78 rfl ?_
    exact ⟨h.grown, _, rfl, (h.outOwn 2 rfl).1, (h.outOwn 2 rfl).2⟩
def place_Copy_b3 (i12 : Int) (x10 : List Co) (nx15 : List Co → Option (List Co)) : Option (List Co) :=
  (idx x10 i12).bind fun x18 => (clone 8 x18.image).bind fun y29 => nx15 (x10.set (i12).toNat { x18 with image := y29 })
def place_Copy_k4 (x10 : List Co) : Option (List Co) :=
  some x10
def place_Copy (a : List Co) : Option (List Co) :=
  (clone 48 a).bind fun y1 => upto place_Copy_b3 place_Copy_k4 0 ((y1.length : Int)).toNat y1
theorem place_Copy_c (w0 : World) (M : BS) (hM : ∀ b, M b → b < w0.heap.size) (va : Value) (a : List Co) (ha : Rd2 rCo w0 BE M va a) (r : List Co) (hs : place_Copy a = some r) :
    Calls Try.prog 76 #[va] w0 (fun e w' => Grow w0 w' ∧ ∃ u0, e = .returned (u0) ∧ OwnSl rCo 66 w' M u0 r ∧ (∀ b, ob u0 b → w0.heap.size ≤ b)) := by
 refine calls_start (args := [va]) Try.func76 rfl Try.ntmps76 (Nat.le_of_ble_eq_true rfl) ?_
 have h := SH.init hM
 replace h := h.argSr 1 ha none_own
 have hl_a := ha.len_le
 refine wc_seq (wc_region (wl_ok (r_assign (v := (.slice none 0 0)) rfl) (wl_nil (then_normal (wc_seq (wc_region (wl_ok (r_move (v := va) rfl) ?_)))))))
 obtain ⟨y1, e2, hs⟩ := o_bind hs
 refine w_call fnOk104 rfl rfl (slices_Clone_Co_c _ _ h.lt va a (h.srS 1 rfl) _ e2) ?_
 rintro _ w ⟨k6, u3, rfl, g4, g5⟩
 refine ⟨_, rfl, ?_⟩
 replace h := h.gotOwn 2 k6 g4 g5
 refine wl_ok (r_assign (v := u3) rfl) (wl_nil (then_normal (wc_seq (wc_seq (wc_region (wl_ok (r_move (v := u3) rfl) (wl_ok (r_len SliceOf59 rfl (h.ownS 2 rfl)) (wl_ok (r_move (v := (.int .i64 (0))) rfl) (wl_nil (then_normal (wc_block ?_)))))))))))
 have hli12 := (h.ownS 2 rfl).len_le
 refine wc_lp (σ := Nat × Int × List Co) (inl [3, 4, 9, 10, 11, 12, 13, 14, 15, 16, 17, 18, 19, 20, 21]) (fun ⟨k11, i12, x10⟩ => [(9, (.int .i64 (i12)))]) (fun ⟨k11, i12, x10⟩ w => SH w0 M BE w (hset [(2, .own rCo 66 u3 x10)]) ∧ i12 = (k11 : Int) ∧ upto place_Copy_b3 place_Copy_k4 i12 (((y1.length : Int)).toNat - k11) x10 = some r) (fun ⟨k11, i12, x10⟩ => ((y1.length : Int)).toNat - k11) ⟨0, 0, y1⟩ ⟨rfl, trivial⟩ ?_ ?_
 ·
  exact ⟨h.cn _, rfl, hs⟩
 ·
  rintro ⟨k11, i12, x10⟩ w junk ⟨h, hik, hs⟩
  refine wc_seq (wc_region ?_)
  refine wl_ok (r_lss rfl rfl) (wl_nil (then_normal ?_))
  refine wc_seq (wc_if rfl (fun e16 => ?_) (fun e16 => ?_))
  ·
   refine wc_skip (then_normal ?_)
   rw [upto_lt (by have := of_decide_eq_true e16; omega)] at hs
   generalize hnx15 : upto place_Copy_b3 place_Copy_k4 (i12 + 1) (((y1.length : Int)).toNat - (k11 + 1)) = nx15 at hs
   have e17r : I64 (i12 + 1) := (by have := of_decide_eq_true e16; have := hli12; exact I64.mk (by omega) (by omega))
   refine wc_seq (wc_block (wc_seq (wc_region (wl_ok (r_move (v := (.int .i64 (i12))) rfl) ?_))))
   obtain ⟨x18, e19, hs⟩ := o_bind hs
   obtain ⟨b21, q22, i20⟩ := h.ixO 2 rfl SliceOf59 rfl (o_idx e19).1 (o_idx e19).2
   refine wl_ok (i20 _ _ _ _ _ _ _ _ _ rfl rfl) ?_
   obtain ⟨cs23, m24, r25⟩ := h.elO 2 rfl q22 (o_idx e19).2
   obtain ⟨u26, rfl, g27⟩ := rCo_open r25
   replace h := h.knowRd 3 g27
   refine wl_ok (r_ldAN (k := 0) (vs := [(.int .i64 (x18.id_)), (.int .i64 (x18.epoch)), u26, (.int .i64 (x18.offered))]) m24 Many66 rfl rfl rfl (Nat.le_of_ble_eq_true rfl)) (w_allocN h 4 Many66 fun w b28 h => wl_ok (r_assign (v := (.int .i64 (i12))) rfl) (w_stN (vs := [(.int .i64 (x18.id_)), (.int .i64 (x18.epoch)), u26, (.int .i64 (x18.offered))]) h 4 [(.int .i64 (x18.id_)), (.int .i64 (x18.epoch)), u26, (.int .i64 (x18.offered))] rfl Many66 rfl rfl rfl rfl rfl (ones_cons rfl (ones_cons rfl (ones_cons (h.rdAt 3 rfl).one (ones_cons rfl ones_nil)))) fun w h => wl_nil (then_normal (wc_region (wl_ok (r_move (v := u3) rfl) (wl_ok (r_move (v := (.int .i64 (i12))) rfl) (wl_ok (r_fieldAddr Fld66x2 rfl) (wl_ok (r_ldB h 4 rfl One24 rfl rfl) ?_))))))))
   obtain ⟨y29, e30, hs⟩ := o_bind hs
   refine w_call fnOk78 rfl rfl (slices_Clone_int_c _ _ h.lt u26 x18.image (h.rdS 3 rfl) _ e30) ?_
   rintro _ w ⟨k34, u31, rfl, g32, g33⟩
   refine ⟨_, rfl, ?_⟩
   replace h := h.gotOwn 5 k34 g32 g33
   obtain ⟨b36, q37, i35⟩ := h.ixO 2 rfl SliceOf59 rfl (o_idx e19).1 (o_idx e19).2
   refine wl_ok (i35 _ _ _ _ _ _ _ _ _ rfl rfl) (wl_ok (r_fieldAddr Fld66x2 rfl) ?_)
   replace h := h.freeze 5 rfl
   refine w_stO (a' := { x18 with image := y29 }) h 2 rfl q37 rfl (o_idx e19).2 One24 rfl rfl (h.rdAt 5 rfl).one rfl (by rintro _ hq; obtain ⟨p2, rfl, q2⟩ := rCo_open hq; exact ⟨_, rfl, (h.rdAt 5 rfl)⟩) fun w h => wl_nil (inBlock_normal (then_normal (wc_region (wl_ok (r_add rfl rfl e17r) (wl_ok (r_move (v := (.int .i64 ((i12 + 1)))) rfl) (wl_nil (then_loop ?_)))))))
   subst hnx15
   exact lend ⟨k11 + 1, i12 + 1, (x10.set (i12).toNat { x18 with image := y29 })⟩ ⟨h.cn _, by omega, hs⟩ (by have := of_decide_eq_true e16; dsimp only; omega)
  ·
   rw [upto_ge (by have := of_decide_eq_false e16; omega)] at hs
   refine wc_exit (then_exit (then_exit (inBlock_eq (then_normal (wc_seq (wc_region (wl_ok (r_move (v := u3) rfl) (wl_ok (r_assign (v := u3) rfl) (wl_nil (then_normal (wc_ret (fin1 (v := u3) Try.results76 rfl ?_))))))))))))
   obtain rfl := Option.some.inj hs
   exact ⟨h.grown, _, rfl, (h.outOwn 2 rfl).1, (h.outOwn 2 rfl).2⟩
def place_Find_b7 (a : List Co) (b : Int) (i3 : Int) (s : Unit) (nx6 : Unit → Option Int) : Option Int :=
  (idx a i3).bind fun x9 => bif decide ((x9.id_ : Int) = b) then some i3 else nx6 ()
def place_Find_k8 (s : Unit) : Option Int :=
  some (-1)
def place_Find (a : List Co) (b : Int) : Option Int :=
  upto (place_Find_b7 a b) place_Find_k8 0 ((a.length : Int)).toNat ()
theorem place_Find_c (w0 : World) (M : BS) (hM : ∀ b, M b → b < w0.heap.size) (va : Value) (a : List Co) (ha : Rd2 rCo w0 BE M va a) (b : Int) (r : Int) (hs : place_Find a b = some r) :
    Calls Try.prog 41 #[va, (.int .i64 (b))] w0 (fun e w' => Grow w0 w' ∧ e = .returned (.int .i64 r)) := by
 refine calls_start (args := [va, (.int .i64 (b))]) Try.func41 rfl Try.ntmps41 (Nat.le_of_ble_eq_true rfl) ?_
 have h := SH.init hM
 replace h := h.argSr 1 ha none_own
 have hl_a := ha.len_le
 refine wc_seq (wc_region (w_box (cs := [(.int .i64 (b))]) h 2 rfl rfl fun w b1 h => wl_ok (r_assign (v := (.int .i64 (0))) rfl) (wl_nil (then_normal (wc_seq (wc_region (wl_ok (r_move (v := va) rfl) (wl_ok (r_makeFunc (c1 := []) (c2 := [(.pointer (some ⟨b1, 0, none⟩))]) rfl rfl) (w_callIn (args := [va, (.func (.func 80) #[] #[(.pointer (some ⟨b1, 0, none⟩))])]) fnOk57 rfl rfl (calls_start (args := [va, (.func (.func 80) #[] #[(.pointer (some ⟨b1, 0, none⟩))])]) Try.func57 rfl Try.ntmps57 (Nat.le_of_ble_eq_true rfl) (wc_seq (wc_region (wl_ok (r_assign (v := (.int .i64 (0))) rfl) (wl_nil (then_normal (wc_seq (wc_seq (wc_region (wl_ok (r_move (v := va) rfl) (wl_ok (r_len SliceOf59 rfl (h.srS 1 rfl)) (wl_ok (r_move (v := (.int .i64 (0))) rfl) (wl_nil ?_))))))))))))))))))))))
 refine then_normal (wc_block ?_)
 have hli3 := (h.srS 1 rfl).len_le
 refine wc_lp (σ := Nat × Int) (inl [4, 5, 8, 9, 10, 11, 12, 13, 14, 15, 16, 17, 18]) (fun ⟨k2, i3⟩ => [(8, (.int .i64 (i3)))]) (fun ⟨k2, i3⟩ w => SH w0 M BE w (hset [(1, .sr rCo va a), (2, .blk b1 [(.int .i64 (b))])]) ∧ i3 = (k2 : Int) ∧ upto (place_Find_b7 a b) place_Find_k8 i3 (((a.length : Int)).toNat - k2) () = some r) (fun ⟨k2, i3⟩ => ((a.length : Int)).toNat - k2) ⟨0, 0⟩ ⟨rfl, trivial⟩ ?_ ?_
 ·
  exact ⟨h.cn _, rfl, hs⟩
 ·
  rintro ⟨k2, i3⟩ w junk ⟨h, hik, hs⟩
  refine wc_seq (wc_region ?_)
  refine wl_ok (r_lss rfl rfl) (wl_nil (then_normal ?_))
  refine wc_seq (wc_if rfl (fun e7 => ?_) (fun e7 => ?_))
  ·
   refine wc_skip (then_normal ?_)
   rw [upto_lt (by have := of_decide_eq_true e7; omega)] at hs
   generalize hnx6 : upto (place_Find_b7 a b) place_Find_k8 (i3 + 1) (((a.length : Int)).toNat - (k2 + 1)) = nx6 at hs
   have e8r : I64 (i3 + 1) := (by have := of_decide_eq_true e7; have := hli3; exact I64.mk (by omega) (by omega))
   refine wc_seq (wc_block (wc_seq (wc_region (wl_ok (r_move (v := (.int .i64 (i3))) rfl) (wl_ok (r_assign (v := (.int .i64 (i3))) rfl) (wl_nil (then_normal (wc_seq (wc_region (wl_ok (r_move (v := (.func (.func 80) #[] #[(.pointer (some ⟨b1, 0, none⟩))])) rfl) (wl_ok (r_move (v := va) rfl) (wl_ok (r_move (v := (.int .i64 (i3))) rfl) ?_))))))))))))
   obtain ⟨x9, e10, hs⟩ := o_bind hs
   obtain ⟨b12, o13, cs14, h, r15, i11⟩ := h.ixS 1 3 rfl SliceOf59 rfl (o_idx e10).1 (o_idx e10).2
   obtain ⟨u16, rfl, g17⟩ := rCo_open r15
   replace h := h.knowRd 4 g17.up
   refine wl_ok (i11 _ _ _ _ _ _ _ _ _ rfl rfl) (wl_ok (r_ldPN (k := 0) (vs := [(.int .i64 (x9.id_)), (.int .i64 (x9.epoch)), u16, (.int .i64 (x9.offered))]) h 3 rfl Many66 rfl rfl rfl (Nat.le_of_ble_eq_true rfl)) (w_callIn (args := [(.agg #[(.int .i64 (x9.id_)), (.int .i64 (x9.epoch)), u16, (.int .i64 (x9.offered))]), (.pointer (some ⟨b1, 0, none⟩))]) fnOk80 rfl rfl (calls_start (args := [(.agg #[(.int .i64 (x9.id_)), (.int .i64 (x9.epoch)), u16, (.int .i64 (x9.offered))]), (.pointer (some ⟨b1, 0, none⟩))]) Try.func80 rfl Try.ntmps80 (Nat.le_of_ble_eq_true rfl) (wc_seq (wc_region (w_box (cs := [(.int .i64 (x9.id_)), (.int .i64 (x9.epoch)), u16, (.int .i64 (x9.offered))]) h 5 rfl rfl fun w b18 h => wl_ok (r_assign (v := (.bool (false))) rfl) (wl_nil (then_normal (wc_seq (wc_region (wl_ok (r_fieldAddr Fld66x0 rfl) (wl_ok (r_ldB h 5 rfl One3 rfl rfl) (wl_ok (r_ldB h 2 rfl One3 rfl rfl) (wl_ok (r_eql rfl rfl) (wl_ok (r_assign (v := (.bool (decide ((x9.id_ : Int) = b)))) rfl) (wl_nil (then_normal (wc_ret (fin1 (v := (.bool (decide ((x9.id_ : Int) = b)))) Try.results80 rfl (⟨_, rfl, ?_⟩))))))))))))))))))))
   refine wl_nil (then_normal (wc_ifb hs rfl (fun c19 hs => ?_) (fun c19 hs => ?_)))
   ·
    refine wc_seq (wc_region (wl_ok (r_move (v := (.int .i64 (i3))) rfl) (wl_ok (r_assign (v := (.int .i64 (i3))) rfl) (wl_nil (then_normal (wc_ret (inBlock_ret (then_ret (then_ret (inBlock_ret (then_ret (fin1 (v := (.int .i64 (i3))) Try.results57 rfl (⟨_, rfl, ?_⟩)))))))))))))
    refine wl_ok (r_assign (v := (.int .i64 (i3))) rfl) (wl_nil (then_normal (wc_ret (fin1 (v := (.int .i64 (i3))) Try.results41 rfl ?_))))
    obtain rfl := Option.some.inj hs
    exact ⟨h.grown, rfl⟩
   ·
    refine wc_skip (inBlock_normal (then_normal (wc_region (wl_ok (r_add rfl rfl e8r) (wl_ok (r_move (v := (.int .i64 ((i3 + 1)))) rfl) (wl_nil (then_loop ?_)))))))
    subst hnx6
    exact lend ⟨k2 + 1, i3 + 1⟩ ⟨h.cn _, by omega, hs⟩ (by have := of_decide_eq_true e7; dsimp only; omega)
  ·
   rw [upto_ge (by have := of_decide_eq_false e7; omega)] at hs
   refine wc_exit (then_exit (then_exit (inBlock_eq (then_normal (wc_seq (wc_region (wl_ok (r_assign (v := (.int .i64 (-1))) rfl) (wl_nil (then_normal (wc_ret (fin1 (v := (.int .i64 (-1))) Try.results57 rfl (⟨_, rfl, ?_⟩))))))))))))
   refine wl_ok (r_assign (v := (.int .i64 (-1))) rfl) (wl_nil (then_normal (wc_ret (fin1 (v := (.int .i64 (-1))) Try.results41 rfl ?_))))
   obtain rfl := Option.some.inj hs
   exact ⟨h.grown, rfl⟩
theorem slices_Insert_Co_c (w0 : World) (M N : BS) (va vb : Value) (a m : List Co) (i : Nat) (ha : OwnSl rCo 66 w0 M va a) (hb : OwnSl rCo 66 w0 N vb m) (hm : m.length = 1) (hN : ∀ b, (M b ∨ ob va b) → b < w0.heap.size → N b ∨ ob vb b) (hap : ∀ b, ob va b → ¬ ob vb b) (hi : i ≤ a.length) (hbig : (a.length + m.length) * 48 ≤ 140737488355328) (hmx : a.length + m.length ≤ 9223372036854775807) :
    Calls Try.prog 77 #[va, .int .i64 (i : Int), vb] w0 (fun e w' => ∃ u, e = .returned u ∧ OwnSl rCo 66 w' M u (a.take i ++ m ++ a.drop i) ∧ Keep (ob va) w0 w' ∧ (∀ b, ob u b → b < w0.heap.size → ob va b)) := by
  refine calls_start (args := [va, .int .i64 (i : Int), vb]) Try.func77 rfl Try.ntmps77 (Nat.le_of_ble_eq_true rfl) ?_
  refine wc_seq (wc_region (wl_ok (r_assign rfl) (wl_nil (then_normal ?_))))
  obtain ⟨u0, hu0, -⟩ := r_sl (P := Try.prog) (T := 59) (a := (i : Int)) (b := (a.length : Int)) SliceOf59 ha.src (by omega) (by omega) (by omega)
  refine wc_seq (wc_region (wl_ok (r_move (v := va) rfl) (wl_ok (r_move (v := .int .i64 (i : Int)) rfl) (wl_ok (hu0 _ _ _ _ _ _ _ _ _ _ rfl (.inr rfl) (.inl ⟨rfl, rfl⟩)) (wl_nil (then_normal ?_))))))
  refine wc_seq (wc_region (wl_ok (r_move (v := vb) rfl) (wl_ok (r_len SliceOf59 rfl hb.src) (wl_ok (r_assign (v := .int .i64 (m.length : Int)) rfl) (wl_nil (then_normal ?_))))))
  refine wc_seq (wc_seq (wc_region (wl_ok (r_move (v := .int .i64 (m.length : Int)) rfl) (wl_ok (r_eql (p := (m.length : Int)) (q := 0) rfl rfl) (wl_nil (then_normal ?_))))))
  refine wc_if rfl (fun c => absurd (of_decide_eq_true c) (by omega)) (fun _ => wc_skip (then_normal ?_))
  refine wc_seq (wc_region (wl_ok (r_move (v := va) rfl) (wl_ok (r_len SliceOf59 rfl ha.src) (wl_ok (r_assign (v := .int .i64 (a.length : Int)) rfl) (wl_nil (then_normal ?_))))))
  refine wc_seq (wc_seq (wc_region (wl_ok (r_move (v := .int .i64 (i : Int)) rfl) (wl_ok (r_move (v := .int .i64 (a.length : Int)) rfl) (wl_ok (r_eql (p := (i : Int)) (q := (a.length : Int)) rfl rfl) (wl_nil (then_normal ?_)))))))
  refine wc_if rfl (fun c => ?_) (fun c => ?_)
  · have hin : i = a.length := by have := of_decide_eq_true c; omega
    refine wc_seq (wc_region (wl_ok (r_move (v := va) rfl) (wl_ok (r_move (v := vb) rfl) ?_)))
    refine wl_appO (A := fun b => M b ∨ ob va b) ElemOf59 rfl (OwnSl.go ha (Keep.refl BE _) (fun _ h => h.elim) (fun _ h => h.elim) (fun b hb _ => hb)) (hb.srcO.sub (fun _ h _ => h) hN) rfl rfl (fun b hb => .inr hb) hbig hmx fun w u h1 h2 h3 => ?_
    refine wl_ok (r_assign (v := u) rfl) (wl_nil (then_normal (wc_ret (then_ret ?_))))
    refine fin1 (v := u) Try.results77 rfl ?_
    refine ⟨_, rfl, ?_, h2, h3⟩
    rw [hin, List.take_length, List.drop_length, List.append_nil]
    exact OwnSl.go h1 (Keep.refl BE _) (fun _ h => h.elim) (fun _ h => h.elim) (fun b hb _ => .inl (.inl hb))
  · have hin : i < a.length := by have := of_decide_eq_false c; omega
    obtain ⟨gg, cap, cur, rfl, hraw0, hcap, hrd⟩ := own_raw ha (by omega)
    obtain ⟨bb, cb, curb, rfl, hrawb, hcapb, hrdb⟩ := own_raw hb (by omega)
    have hcm := hraw0.le
    unfold maxLen at hcm
    obtain ⟨x, rfl⟩ : ∃ x, m = [x] := by
      cases m with
      | nil => cases hm
      | cons x m => cases m with
        | nil => exact ⟨x, rfl⟩
        | cons y m => simp at hm
    have hxr : rCo.rd w0 (fun b => N b ∨ b = bb) (curb.take 4) x := by have h := hrdb 0 (by simp); rw [Nat.zero_mul, List.drop_zero] at h; exact h
    have hne : gg ≠ bb := fun e => hap gg (by simp [ob]) (by simp [ob, e])
    have hggl := lt_of_blk hraw0.blk
    have hbbl := lt_of_blk hrawb.blk
    have hlen := hraw0.len
    have hcl : a.length * 4 ≤ cur.length := by rw [hlen]; exact Nat.mul_le_mul_right _ hcap
    have hil : i * 4 + 4 ≤ a.length * 4 := by rw [← Nat.succ_mul]; exact Nat.mul_le_mul_right _ hin
    have hsub : (a.length - i) * 4 = a.length * 4 - i * 4 := Nat.sub_mul _ _ _
    have hxl := rCo.len hxr
    have hxl2 : (curb.take 4).length = 4 := hxl
    have hD : ((cur.drop (i * 4)).take ((a.length - i) * 4)).length = (a.length - i) * 4 := by rw [List.length_take, List.length_drop]; omega
    have hD1 := rd_ones hrd (j := i) (m := a.length - i) (by omega)
    have hN' : ∀ b, (M b ∨ b = gg) → b < w0.heap.size → N b ∨ b = bb := fun b hb hl => hN b (hb.imp id (fun hb => by simpa [ob] using hb)) hl
    refine wc_skip (then_normal ?_)
    refine wc_seq (wc_seq (wc_region (wl_ok (r_move (v := .int .i64 (a.length : Int)) rfl) (wl_ok (r_move (v := .int .i64 ([x].length : Int)) rfl) (wl_ok (r_add (p := (a.length : Int)) (q := ([x].length : Int)) rfl rfl (by simp only [List.length_singleton]; omega)) (wl_ok (r_move (v := .slice (some ⟨gg, 0, none⟩) a.length cap) rfl) (wl_ok (r_cap SliceOf59 rfl) (wl_ok (r_gtr (p := ((a.length : Int) + ([x].length : Int))) (q := (cap : Int)) rfl rfl) (wl_nil (then_normal ?_))))))))))
    refine wc_if rfl (fun c2 => ?_) (fun c2 => ?_)
    · have hgr : cap < a.length + 1 := by have := of_decide_eq_true c2; simp at this; omega
      refine wc_seq (wc_region ?_)
      refine wl_ok (r_move (v := .slice (some ⟨gg, 0, none⟩) a.length cap) rfl) (wl_ok (r_move (v := .int .i64 (i : Int)) rfl) (wl_ok (r_sliceTo (b := i) (ad := some ⟨gg, 0, none⟩) (len := a.length) (cap := cap) SliceOf59 rfl (.inr ⟨gg, rfl⟩) (.inl ⟨rfl, rfl⟩) rfl (by omega)) ?_))
      refine wl_ok (r_move (v := .int .i64 (a.length : Int)) rfl) (wl_ok (r_move (v := .int .i64 ([x].length : Int)) rfl) (wl_ok (r_add (p := (a.length : Int)) (q := ([x].length : Int)) rfl rfl (by simp only [List.length_singleton]; omega)) ?_))
      refine wl_ok (r_move (v := .int .i64 (i : Int)) rfl) (wl_ok (r_sub (p := ((a.length : Int) + ([x].length : Int))) (q := (i : Int)) rfl rfl (by simp only [List.length_singleton]; omega)) ?_)
      refine wl_growRaw (gg := gg) (cap := cap) (a := i) (k := a.length + 1 - i) ElemOf59 Try.underlying3 hraw0 rfl (congrArg (Value.int .i64) (by simp only [List.length_singleton]; omega)) (by decide) (by omega) (by omega) (by omega) (by simp only [List.length_singleton] at hbig; rw [show i + (a.length + 1 - i) = a.length + 1 by omega]; exact hbig) (by unfold maxLen; simp only [List.length_singleton] at hmx; omega) fun w g2 cap2 cur2 hk1 hg2 hcap2 hraw2 htk => ?_
      rw [show i + (a.length + 1 - i) = a.length + 1 by omega] at hcap2 ⊢
      have hne2 : g2 ≠ bb := by omega
      have hne3 : g2 ≠ gg := by omega
      have hl2 := hraw2.len
      have hc2l : (a.length + 1) * 4 ≤ cap2 * 4 := Nat.mul_le_mul_right _ hcap2
      rw [Nat.succ_mul] at hc2l
      refine wl_ok (r_assign (v := .slice (some ⟨g2, 0, none⟩) (a.length + 1) cap2) rfl) (wl_nil (then_normal ?_))
      refine wc_seq (wc_region ?_)
      refine wl_ok (r_move (v := .slice (some ⟨g2, 0, none⟩) (a.length + 1) cap2) rfl) (wl_ok (r_move (v := .int .i64 (i : Int)) rfl) (wl_ok (r_sliceRaw (gg := g2) (a := i) (b := a.length + 1) (m := cap2) (len := a.length + 1) (cap := cap2) SliceOf59 rfl (.inr rfl) (.inl ⟨rfl, rfl⟩) (.inl ⟨rfl, rfl⟩) (by omega) (by omega) (by omega)) ?_))
      refine wl_ok (r_move (v := .slice (some ⟨bb, 0, none⟩) [x].length cb) rfl) ?_
      have hrawb1 := hrawb.keep hk1 (fun h => h)
      refine wl_copyRaw (gg := g2) (cap := cap2) (o := i) (dl := a.length + 1 - i) (dc := cap2 - i) (m := [x].length) (c := cb) (ad := ⟨bb, 0, none⟩) (news := curb.take 4) ElemOf59 hraw2 (congrArg (fun z => Value.slice (some z) (a.length + 1 - i) (cap2 - i)) (if_neg (by omega))) rfl (by rw [show Nat.min [x].length (a.length + 1 - i) = 1 from Nat.min_eq_left (by simp; omega), Nat.one_mul]; exact hxl2) (fun j u hj => row_cells hrawb1 0 4 j u (by simpa using hj)) (rCo.one hxr) (by rw [show Nat.min [x].length (a.length + 1 - i) = 1 from Nat.min_eq_left (by simp; omega)]; omega) fun w hk2 hraw3 => ?_
      refine wl_nil (then_normal ?_)
      have hK1 : Keep (fun y => y = gg) w0 w := hk1.keep.step hk2 (fun y hy hl => by omega)
      refine wc_seq (wc_tail0 8 mixed (by kernel_rfl) fun w hk3 => ?_)
      have hK2 : Keep (fun y => y = gg) w0 w := hK1.step hk3 (fun _ h => h.elim)
      have hraw3' := hraw3.keep hk3 (fun h => h)
      have hrawg : Raw w gg cap 4 66 cur := ((hraw0.keep hk1 (fun h => h)).keep hk2 (fun h => hne3 h.symm)).keep hk3 (fun h => h)
      refine wk_ok (r_move (v := .slice (some ⟨g2, 0, none⟩) (a.length + 1) cap2) rfl) (wk_ok (r_move (v := .int .i64 (i : Int)) rfl) (wk_ok (r_move (v := .int .i64 ([x].length : Int)) rfl) (wk_ok (r_add (p := (i : Int)) (q := ([x].length : Int)) rfl rfl (by simp only [List.length_singleton]; omega)) ?_)))
      refine wk_ok (r_sliceRaw (gg := g2) (a := i + 1) (b := a.length + 1) (m := cap2) (len := a.length + 1) (cap := cap2) SliceOf59 rfl (.inr rfl) (.inl ⟨rfl, rfl⟩) (.inl ⟨rfl, rfl⟩) (by omega) (by omega) (by omega)) ?_
      refine wk_ok (r_move (v := .slice (some ⟨gg, 0, none⟩) a.length cap) rfl) (wk_ok (r_move (v := .int .i64 (i : Int)) rfl) ?_)
      refine wk_ok (r_sliceRaw (gg := gg) (a := i) (b := a.length) (m := cap) (len := a.length) (cap := cap) SliceOf59 rfl (.inr rfl) (.inl ⟨rfl, rfl⟩) (.inl ⟨rfl, rfl⟩) (by omega) (by omega) (by omega)) (wk_go ?_)
      refine wl_copyRaw (gg := g2) (cap := cap2) (o := i + 1) (dl := a.length + 1 - (i + 1)) (dc := cap2 - (i + 1)) (m := a.length - i) (c := cap - i) (ad := ⟨gg, i * 4, none⟩) (news := (cur.drop (i * 4)).take ((a.length - i) * 4)) ElemOf59 hraw3' (congrArg (fun z => Value.slice (some z) (a.length + 1 - (i + 1)) (cap2 - (i + 1))) (if_neg (by omega))) (congrArg (fun z => Value.slice (some z) (a.length - i) (cap - i)) (if_neg (by omega))) (by rw [show Nat.min (a.length - i) (a.length + 1 - (i + 1)) = a.length - i from Nat.min_eq_left (by omega)]; exact hD) (row_cells hrawg (i * 4) ((a.length - i) * 4)) hD1 (by rw [show Nat.min (a.length - i) (a.length + 1 - (i + 1)) = a.length - i from Nat.min_eq_left (by omega)]; omega) fun w hk4 hraw4 => ?_
      refine wl_nil (then_normal (wc_seq (wc_region (wl_ok (r_move (v := .slice (some ⟨g2, 0, none⟩) (a.length + 1) cap2) rfl) (wl_ok (r_assign (v := .slice (some ⟨g2, 0, none⟩) (a.length + 1) cap2) rfl) (wl_nil (then_normal (wc_ret (then_ret ?_)))))))))
      have hK3 : Keep (fun y => y = gg) w0 w := hK2.step hk4 (fun y hy hl => by have : y = g2 := hy; omega)
      refine fin1 (v := .slice (some ⟨g2, 0, none⟩) (a.length + 1) cap2) Try.results77 rfl ?_
      refine ⟨_, rfl, raw_ins hraw4 hK3 (fun h => by omega) (by omega) hcap2 hcl hrd hxr hN' hggl ?_, hK3.weaken (fun y hy _ => by simp [ob]; exact hy), fun b hb hl => by simp [ob] at hb; omega⟩
      have hm1 : (i + 1) * 4 = i * 4 + 4 := Nat.succ_mul _ _
      have hq : ((cur2.take (i * 4) ++ curb.take 4 ++ cur2.drop (i * 4 + (curb.take 4).length))).length = cap2 * 4 := hraw3.len
      rw [hm1]
      show List.take (i * 4 + 4 + (a.length - i) * 4) _ = List.take (i * 4) cur ++ curb.take 4 ++ List.take ((a.length - i) * 4) (List.drop (i * 4) cur)
      refine (ins_l2 (by rw [hq]; omega) hD).trans ?_
      rw [hxl2, ins_l1 hxl2 (by omega), htk]
    · have hroom : a.length + 1 ≤ cap := by have := of_decide_eq_false c2; simp at this; omega
      have hc2l : (a.length + 1) * 4 ≤ cap * 4 := Nat.mul_le_mul_right _ hroom
      rw [Nat.succ_mul] at hc2l
      have hm1 : (i + 1) * 4 = i * 4 + 4 := Nat.succ_mul _ _
      refine wc_skip (then_normal ?_)
      refine wc_seq (wc_region ?_)
      refine wl_ok (r_move (v := .slice (some ⟨gg, 0, none⟩) a.length cap) rfl) (wl_ok (r_move (v := .int .i64 (a.length : Int)) rfl) (wl_ok (r_move (v := .int .i64 ([x].length : Int)) rfl) (wl_ok (r_add (p := (a.length : Int)) (q := ([x].length : Int)) rfl rfl (by simp only [List.length_singleton]; omega)) ?_)))
      refine wl_ok (r_sliceTo (b := a.length + 1) (ad := some ⟨gg, 0, none⟩) (len := a.length) (cap := cap) SliceOf59 rfl (.inr ⟨gg, rfl⟩) (.inl ⟨rfl, rfl⟩) rfl (by omega)) (wl_ok (r_assign (v := .slice (some ⟨gg, 0, none⟩) (a.length + 1) cap) rfl) (wl_nil (then_normal ?_)))
      refine wc_seq (wc_seq (wc_region ?_))
      refine wl_ok (r_move (v := .slice (some ⟨bb, 0, none⟩) [x].length cb) rfl) (wl_ok (r_move (v := .slice (some ⟨gg, 0, none⟩) (a.length + 1) cap) rfl) (wl_ok (r_move (v := .int .i64 (i : Int)) rfl) (wl_ok (r_move (v := .int .i64 ([x].length : Int)) rfl) (wl_ok (r_add (p := (i : Int)) (q := ([x].length : Int)) rfl rfl (by simp only [List.length_singleton]; omega)) ?_))))
      refine wl_ok (r_sliceRaw (gg := gg) (a := i + 1) (b := a.length + 1) (m := cap) (len := a.length + 1) (cap := cap) SliceOf59 rfl (.inr rfl) (.inl ⟨rfl, rfl⟩) (.inl ⟨rfl, rfl⟩) (by omega) (by omega) (by omega)) ?_
      refine wl_overlaps (g1 := bb) (g2 := gg) (o1 := 0) (o2 := (i + 1) * 4) (m1 := [x].length) (k1 := cb) (m2 := a.length + 1 - (i + 1)) (k2 := cap - (i + 1)) Over105 ElemOf59 hrawb.blk hraw0 (fun e => hne e.symm) (by omega) rfl (la_cons rfl (la_cons (congrArg (fun z => Value.slice (some z) (a.length + 1 - (i + 1)) (cap - (i + 1))) (if_neg (by omega))) rfl)) ?_
      refine wl_ok (r_notb rfl) (wl_nil (then_normal ?_))
      refine wc_ift rfl ?_
      refine wc_seq (wc_tail0 8 mixed (by kernel_rfl) fun w hk1 => ?_)
      have hraw1 := hraw0.keep hk1 (fun h => h)
      have hrawb1 := hrawb.keep hk1 (fun h => h)
      have hK1 : Keep (fun y => y = gg) w0 w := hk1.keep
      refine wk_ok (r_move (v := .slice (some ⟨gg, 0, none⟩) (a.length + 1) cap) rfl) (wk_ok (r_move (v := .int .i64 (i : Int)) rfl) (wk_ok (r_move (v := .int .i64 ([x].length : Int)) rfl) (wk_ok (r_add (p := (i : Int)) (q := ([x].length : Int)) rfl rfl (by simp only [List.length_singleton]; omega)) ?_)))
      refine wk_ok (r_sliceRaw (gg := gg) (a := i + 1) (b := a.length + 1) (m := cap) (len := a.length + 1) (cap := cap) SliceOf59 rfl (.inr rfl) (.inl ⟨rfl, rfl⟩) (.inl ⟨rfl, rfl⟩) (by omega) (by omega) (by omega)) ?_
      refine wk_ok (r_move (v := .slice (some ⟨gg, 0, none⟩) (a.length + 1) cap) rfl) (wk_ok (r_move (v := .int .i64 (i : Int)) rfl) ?_)
      refine wk_ok (r_sliceRaw (gg := gg) (a := i) (b := a.length + 1) (m := cap) (len := a.length + 1) (cap := cap) SliceOf59 rfl (.inr rfl) (.inl ⟨rfl, rfl⟩) (.inl ⟨rfl, rfl⟩) (by omega) (by omega) (by omega)) (wk_go ?_)
      refine wl_copyRaw (gg := gg) (cap := cap) (o := i + 1) (dl := a.length + 1 - (i + 1)) (dc := cap - (i + 1)) (m := a.length + 1 - i) (c := cap - i) (ad := ⟨gg, i * 4, none⟩) (news := (cur.drop (i * 4)).take ((a.length - i) * 4)) ElemOf59 hraw1 (congrArg (fun z => Value.slice (some z) (a.length + 1 - (i + 1)) (cap - (i + 1))) (if_neg (by omega))) (congrArg (fun z => Value.slice (some z) (a.length + 1 - i) (cap - i)) (if_neg (by omega))) (by rw [show Nat.min (a.length + 1 - i) (a.length + 1 - (i + 1)) = a.length - i from (Nat.min_eq_right (by omega)).trans (by omega)]; exact hD) (row_cells hraw1 (i * 4) ((a.length - i) * 4)) hD1 (by rw [show Nat.min (a.length + 1 - i) (a.length + 1 - (i + 1)) = a.length - i from (Nat.min_eq_right (by omega)).trans (by omega)]; omega) fun w hk2 hraw2 => ?_
      have hK2 : Keep (fun y => y = gg) w0 w := hK1.step hk2 (fun _ h _ => h)
      have hrawb2 := hrawb1.keep hk2 (fun h => hne h.symm)
      refine wl_nil (then_normal (wc_seq (wc_region ?_)))
      refine wl_ok (r_move (v := .slice (some ⟨gg, 0, none⟩) (a.length + 1) cap) rfl) (wl_ok (r_move (v := .int .i64 (i : Int)) rfl) ?_)
      refine wl_ok (r_sliceRaw (gg := gg) (a := i) (b := a.length + 1) (m := cap) (len := a.length + 1) (cap := cap) SliceOf59 rfl (.inr rfl) (.inl ⟨rfl, rfl⟩) (.inl ⟨rfl, rfl⟩) (by omega) (by omega) (by omega)) ?_
      refine wl_ok (r_move (v := .slice (some ⟨bb, 0, none⟩) [x].length cb) rfl) ?_
      refine wl_copyRaw (gg := gg) (cap := cap) (o := i) (dl := a.length + 1 - i) (dc := cap - i) (m := [x].length) (c := cb) (ad := ⟨bb, 0, none⟩) (news := curb.take 4) ElemOf59 hraw2 (congrArg (fun z => Value.slice (some z) (a.length + 1 - i) (cap - i)) (if_neg (by omega))) rfl (by rw [show Nat.min [x].length (a.length + 1 - i) = 1 from Nat.min_eq_left (by simp; omega), Nat.one_mul]; exact hxl2) (fun j u hj => row_cells hrawb2 0 4 j u (by simpa using hj)) (rCo.one hxr) (by rw [show Nat.min [x].length (a.length + 1 - i) = 1 from Nat.min_eq_left (by simp; omega)]; omega) fun w hk3 hraw3 => ?_
      have hK3 : Keep (fun y => y = gg) w0 w := hK2.step hk3 (fun _ h _ => h)
      refine wl_nil (then_normal (wc_seq (wc_region (wl_ok (r_move (v := .slice (some ⟨gg, 0, none⟩) (a.length + 1) cap) rfl) (wl_ok (r_assign (v := .slice (some ⟨gg, 0, none⟩) (a.length + 1) cap) rfl) (wl_nil (then_normal (wc_ret (then_ret ?_)))))))))
      refine fin1 (v := .slice (some ⟨gg, 0, none⟩) (a.length + 1) cap) Try.results77 rfl ?_
      refine ⟨_, rfl, raw_ins hraw3 hK3 (fun _ => rfl) (by omega) hroom hcl hrd hxr hN' hggl ?_, hK3, fun b hb _ => hb⟩
      show List.take (i * 4 + 4 + (a.length - i) * 4) _ = List.take (i * 4) cur ++ curb.take 4 ++ List.take ((a.length - i) * 4) (List.drop (i * 4) cur)
      rw [hxl2, hm1]
      exact ins_l3 hxl2 (by omega) hD
theorem slices_Delete_Co_c (w0 : World) (M : BS) (va : Value) (a : List Co) (i j : Nat) (ha : OwnSl rCo 66 w0 M va a) (hij : i < j) (hj : j ≤ a.length) :
    Calls Try.prog 79 #[va, .int .i64 (i : Int), .int .i64 (j : Int)] w0 (fun e w' => ∃ u, e = .returned u ∧ OwnSl rCo 66 w' M u (a.take i ++ a.drop j) ∧ Keep (ob va) w0 w' ∧ (∀ b, ob u b → b < w0.heap.size → ob va b)) := by
  obtain ⟨gg, cap, cur, rfl, hraw0, hcap, hrd⟩ := own_raw ha (by omega)
  refine calls_start (args := [.slice (some ⟨gg, 0, none⟩) a.length cap, .int .i64 (i : Int), .int .i64 (j : Int)]) Try.func79 rfl Try.ntmps79 (Nat.le_of_ble_eq_true rfl) ?_
  refine wc_seq (wc_region (wl_ok (r_assign rfl) (wl_nil (then_normal ?_))))
  refine wc_seq (wc_region ?_)
  refine wl_ok (r_move (v := .slice (some ⟨gg, 0, none⟩) a.length cap) rfl) (wl_ok (r_move (v := .int .i64 (i : Int)) rfl) (wl_ok (r_move (v := .int .i64 (j : Int)) rfl) (wl_ok (r_move (v := .slice (some ⟨gg, 0, none⟩) a.length cap) rfl) ?_)))
  refine wl_ok (r_len_slice (a := some ⟨gg, 0, none⟩) (l := a.length) (c := cap) SliceOf59 rfl) ?_
  refine wl_ok (r_sliceRaw (gg := gg) (a := i) (b := j) (m := a.length) (len := a.length) (cap := cap) SliceOf59 rfl (.inr rfl) (.inr rfl) (.inr ⟨rfl, rfl⟩) (by omega) (by omega) (by omega)) (wl_nil (then_normal ?_))
  refine wc_seq (wc_seq (wc_region ?_))
  refine wl_ok (r_move (v := .int .i64 (i : Int)) rfl) (wl_ok (r_move (v := .int .i64 (j : Int)) rfl) (wl_ok (r_eql (p := (i : Int)) (q := (j : Int)) rfl rfl) (wl_nil (then_normal ?_))))
  refine wc_if rfl (fun c => absurd (of_decide_eq_true c) (by omega)) (fun _ => wc_skip (then_normal ?_))
  refine wc_seq (wc_region ?_)
  refine wl_ok (r_move (v := .slice (some ⟨gg, 0, none⟩) a.length cap) rfl) (wl_ok (r_len_slice (a := some ⟨gg, 0, none⟩) (l := a.length) (c := cap) SliceOf59 rfl) (wl_ok (r_assign (v := .int .i64 (a.length : Nat)) rfl) (wl_nil (then_normal ?_))))
  refine wc_seq (wc_tail0 6 mixed (by kernel_rfl) fun w hk => ?_)
  have hraw := hraw0.keep hk (fun h => h)
  have hK : Keep (fun x => x = gg) w0 w := hk.keep
  refine wk_ok (r_move (v := .slice (some ⟨gg, 0, none⟩) a.length cap) rfl) (wk_ok (r_move (v := .int .i64 (i : Int)) rfl) ?_)
  refine wk_ok (r_sliceTo (b := i) (ad := some ⟨gg, 0, none⟩) (len := a.length) (cap := cap) SliceOf59 rfl (.inr ⟨gg, rfl⟩) (.inl ⟨rfl, rfl⟩) rfl (by omega)) ?_
  refine wk_ok (r_move (v := .slice (some ⟨gg, 0, none⟩) a.length cap) rfl) (wk_ok (r_move (v := .int .i64 (j : Int)) rfl) ?_)
  refine wk_ok (r_sliceRaw (gg := gg) (a := j) (b := a.length) (m := cap) (len := a.length) (cap := cap) SliceOf59 rfl (.inr rfl) (.inl ⟨rfl, rfl⟩) (.inl ⟨rfl, rfl⟩) (by omega) (by omega) (by omega)) (wk_go ?_)
  refine wl_rawAppend (gg := gg) (cap := cap) (a := i) (m := a.length - j) (c := cap - j) (j := j) (ad := if cap = j then ⟨gg, 0, none⟩ else ⟨gg, j * 4, none⟩) ElemOf59 hraw rfl rfl (if hcj : cap = j then .inl (by omega) else .inr (if_neg hcj)) (by omega) (by omega) (rd_ones hrd (by omega)) ?_
  intro w hk2 hraw2
  replace hK := hK.step hk2 (fun x hx _ => hx)
  refine wl_ok (r_assign (v := .slice (some ⟨gg, 0, none⟩) (i + (a.length - j)) cap) rfl) (wl_nil (then_normal ?_))
  refine wc_seq (wc_region ?_)
  refine wl_ok (r_move (v := .slice (some ⟨gg, 0, none⟩) (i + (a.length - j)) cap) rfl) (wl_ok (r_move (v := .slice (some ⟨gg, 0, none⟩) (i + (a.length - j)) cap) rfl) ?_)
  refine wl_ok (r_len_slice (a := some ⟨gg, 0, none⟩) (l := i + (a.length - j)) (c := cap) SliceOf59 rfl) (wl_ok (r_move (v := .int .i64 (a.length : Nat)) rfl) ?_)
  refine wl_ok (r_sliceRaw (gg := gg) (a := i + (a.length - j)) (b := a.length) (m := cap) (len := i + (a.length - j)) (cap := cap) SliceOf59 rfl (.inr rfl) (.inr rfl) (.inl ⟨rfl, rfl⟩) (by omega) (by omega) (by omega)) ?_
  refine wl_clearRaw (gg := gg) (cap := cap) (m := i + (a.length - j)) (k := a.length - (i + (a.length - j))) (c := cap - (i + (a.length - j))) ElemOf59 ZeroOne66 hraw2 (congrArg (fun z => Value.slice (some z) (a.length - (i + (a.length - j))) (cap - (i + (a.length - j)))) (if_neg (by omega))) (by omega) (by omega) ?_
  intro w cur3 hk3 hraw3 hcur3
  replace hK := hK.step hk3 (fun x hx _ => hx)
  refine wl_nil (then_normal (wc_seq (wc_region ?_)))
  refine wl_ok (r_move (v := .slice (some ⟨gg, 0, none⟩) (i + (a.length - j)) cap) rfl) (wl_ok (r_assign (v := .slice (some ⟨gg, 0, none⟩) (i + (a.length - j)) cap) rfl) (wl_nil (then_normal (wc_ret ?_))))
  refine fin1 (v := .slice (some ⟨gg, 0, none⟩) (i + (a.length - j)) cap) Try.results79 rfl ?_
  refine ⟨_, rfl, raw_del hraw3 hraw0 hK (by omega) (by omega) hcap hrd ?_, hK, fun b hb _ => hb⟩
  exact hcur3.trans (del_len hraw0.len (by omega) hj hcap)
def place_Next_j27 (x23 : Int) (nx28 : Int → Option (List Co × Int)) (b : Rec) (y8 : List Co) (x31 : Bool) : Option (List Co × Int) :=
  bif x31 then grd (I64 (x23 + 1)) (nx28 (x23 + 1)) else (clone 8 b.image).bind fun y51 => grd (Room 48 y8 [(⟨b.co, b.epoch, y51, -1⟩ : Co)]) ((ins1 y8 x23 [(⟨b.co, b.epoch, y51, -1⟩ : Co)]).bind fun y59 => some (y59, 0))
def place_Next_b28 (y8 : List Co) (b : Rec) (x23 : Int) (nx28 : Int → Option (List Co × Int)) : Option (List Co × Int) :=
  bif decide ((x23 : Int) < (y8.length : Int)) then (idx y8 x23).bind fun x65 => place_Next_j27 x23 nx28 b y8 (decide ((x65.id_ : Int) < b.co)) else place_Next_j27 x23 nx28 b y8 false
def place_Next_j30 (b : Rec) (y8 : List Co) (y14 : Int) (x76 : Co) (x81 : Bool) : Option (List Co × Int) :=
  bif x81 then some ([], 7) else bif decide ((b.kind : Int) = 2) then (clone 8 b.image).bind fun y84 => some ((y8.set (y14).toNat { x76 with image := y84 }), 0) else bif decide ((b.kind : Int) = 3) then bif decide ((x76.epoch : Int) = 100) then some ([], 2) else some ((y8.set (y14).toNat { x76 with offered := b.place }), 0) else bif decide ((b.kind : Int) = 5) then grd (I64 (y14 + 1)) ((del1 y8 y14 (y14 + 1)).bind fun y99 => some (y99, 0)) else some (y8, 0)
def place_Next (N : Nat) (a : List Co) (b : Rec) : Option (List Co × Int) :=
  (place_Check a).bind fun y2 => bif decide ((y2 : Int) ≠ 0) then some ([], y2) else bif decide (((record_Check b) : Int) ≠ 0) then some ([], (record_Check b)) else (place_Copy a).bind fun y8 => (place_Find y8 b.co).bind fun y14 => bif (decide ((b.kind : Int) = 1) || decide ((b.kind : Int) = 4)) then bif decide ((0 : Int) ≤ y14) then some ([], 6) else bif ((decide ((b.kind : Int) = 1) && decide ((b.epoch : Int) ≠ 1)) || (decide ((b.kind : Int) = 4) && decide ((b.epoch : Int) = 1))) then some ([], 7) else again (place_Next_b28 y8 b) N 0 else bif decide ((y14 : Int) < 0) then some ([], 5) else (idx y8 y14).bind fun x76 => bif decide ((x76.epoch : Int) ≠ b.epoch) then place_Next_j30 b y8 y14 x76 true else place_Next_j30 b y8 y14 x76 (decide ((b.kind : Int) = 5) != decide ((0 : Int) ≤ x76.offered))
theorem place_Next_c (N : Nat) (w0 : World) (M : BS) (hM : ∀ b, M b → b < w0.heap.size) (va : Value) (a : List Co) (ha : Rd2 rCo w0 BE M va a) (b : Rec) (vb4 vb5 : Value) (hb4 : Rd2 rInt w0 BE M vb4 b.says) (hb5 : Rd2 rInt w0 BE M vb5 b.image) (r : List Co × Int) (hs : place_Next N a b = some r) :
    Calls Try.prog 38 #[va, (.agg #[(.int .i64 (b.kind)), (.int .i64 (b.co)), (.int .i64 (b.epoch)), (.int .i64 (b.place)), vb4, vb5])] w0 (fun e w' => Grow w0 w' ∧ ∃ u0, e = .returned (.tuple #[u0, .int .i64 r.2]) ∧ OwnSl rCo 66 w' M u0 r.1 ∧ (∀ b, ob u0 b → w0.heap.size ≤ b)) := by
 refine calls_start (args := [va, (.agg #[(.int .i64 (b.kind)), (.int .i64 (b.co)), (.int .i64 (b.epoch)), (.int .i64 (b.place)), vb4, vb5])]) Try.func38 rfl Try.ntmps38 (Nat.le_of_ble_eq_true rfl) ?_
 have h := SH.init hM
 replace h := h.argSr 1 ha none_own
 replace h := h.argSr 2 hb4 (hupd_own_sr none_own)
 replace h := h.argSr 3 hb5 (hupd_own_sr (hupd_own_sr none_own))
 have hl_a := ha.len_le
 refine wc_seq (wc_region (w_box (cs := [(.int .i64 (b.kind)), (.int .i64 (b.co)), (.int .i64 (b.epoch)), (.int .i64 (b.place)), vb4, vb5]) h 4 rfl rfl fun w b1 h => wl_ok (r_assign (v := (.slice none 0 0)) rfl) (wl_ok (r_assign (v := (.int .i64 (0))) rfl) (wl_nil (then_normal (wc_seq (wc_seq (wc_region (wl_ok (r_move (v := va) rfl) ?_)))))))))
 obtain ⟨y2, e3, hs⟩ := o_bind hs
 refine w_call fnOk40 rfl rfl (place_Check_c _ _ h.lt va a (h.srS 1 rfl) _ e3) ?_
 rintro _ w ⟨k4, rfl⟩
 refine ⟨_, rfl, ?_⟩
 replace h := h.grow k4
 refine wl_ok (r_assign (v := (.int .i64 (y2))) rfl) (wl_nil (then_normal (wc_seq (wc_region (wl_ok (r_move (v := (.int .i64 (y2))) rfl) (wl_ok (r_neq rfl rfl) (wl_nil (then_normal (wc_ifb hs rfl (fun c5 hs => ?_) (fun c5 hs => ?_))))))))))
 ·
  refine wc_seq (wc_region (wl_ok (r_move (v := (.int .i64 (y2))) rfl) (wl_ok (r_assign (v := (.slice none 0 0)) rfl) (wl_ok (r_assign (v := (.int .i64 (y2))) rfl) (wl_nil (then_normal (wc_ret (then_ret (fin2 (v1 := (.slice none 0 0)) (v2 := (.int .i64 (y2))) Try.results38 rfl rfl ?_)))))))))
  obtain rfl := Option.some.inj hs
  exact ⟨h.grown, _, rfl, OwnSl.nil, fresh_nil⟩
 ·
  refine wc_skip (then_normal (wc_seq (wc_seq (wc_region (wl_ok (r_ldBN (vs := [(.int .i64 (b.kind)), (.int .i64 (b.co)), (.int .i64 (b.epoch)), (.int .i64 (b.place)), vb4, vb5]) h 4 rfl Many61 rfl rfl rfl) (w_call fnOk75 rfl rfl (record_Check_c _ _ h.lt b vb4 vb5 (h.srS 2 rfl) (h.srS 3 rfl) _ rfl) ?_))))))
  rintro _ w ⟨k6, rfl⟩
  refine ⟨_, rfl, ?_⟩
  replace h := h.grow k6
  refine wl_ok (r_assign (v := (.int .i64 ((record_Check b)))) rfl) (wl_nil (then_normal (wc_seq (wc_region (wl_ok (r_move (v := (.int .i64 ((record_Check b)))) rfl) (wl_ok (r_neq rfl rfl) (wl_nil (then_normal (wc_ifb hs rfl (fun c7 hs => ?_) (fun c7 hs => ?_))))))))))
  ·
   refine wc_seq (wc_region (wl_ok (r_move (v := (.int .i64 ((record_Check b)))) rfl) (wl_ok (r_assign (v := (.slice none 0 0)) rfl) (wl_ok (r_assign (v := (.int .i64 ((record_Check b)))) rfl) (wl_nil (then_normal (wc_ret (then_ret (fin2 (v1 := (.slice none 0 0)) (v2 := (.int .i64 ((record_Check b)))) Try.results38 rfl rfl ?_)))))))))
   obtain rfl := Option.some.inj hs
   exact ⟨h.grown, _, rfl, OwnSl.nil, fresh_nil⟩
  ·
   refine wc_skip (then_normal (wc_seq (wc_region (wl_ok (r_move (v := va) rfl) ?_))))
   obtain ⟨y8, e9, hs⟩ := o_bind hs
   refine w_call fnOk76 rfl rfl (place_Copy_c _ _ h.lt va a (h.srS 1 rfl) _ e9) ?_
   rintro _ w ⟨k13, u10, rfl, g11, g12⟩
   refine ⟨_, rfl, ?_⟩
   replace h := h.gotOwn 5 k13 g11 g12
   refine wl_ok (r_assign (v := u10) rfl) (wl_nil (then_normal (wc_seq (wc_region (wl_ok (r_move (v := u10) rfl) (wl_ok (r_fieldAddr Fld61x1 rfl) (wl_ok (r_ldB h 4 rfl One3 rfl rfl) ?_)))))))
   obtain ⟨y14, e15, hs⟩ := o_bind hs
   refine w_call fnOk41 rfl rfl (place_Find_c _ _ h.lt u10 y8 (h.ownS 5 rfl) b.co _ e15) ?_
   rintro _ w ⟨k16, rfl⟩
   refine ⟨_, rfl, ?_⟩
   replace h := h.grow k16
   refine wl_ok (r_assign (v := (.int .i64 (y14))) rfl) (wl_nil (then_normal (wc_seq (wc_seq (wc_region (wl_ok (r_fieldAddr Fld61x0 rfl) (wl_ok (r_ldB h 4 rfl One3 rfl rfl) (wl_ok (r_eql rfl rfl) (wl_ok (r_move (v := (.bool (decide ((b.kind : Int) = 1)))) rfl) (wl_gd0 rfl rfl (fun q => r_fieldAddr Fld61x0 rfl) (wl_gd0 rfl rfl (fun q => r_ldB h 4 rfl One3 (gvt q) rfl) (wl_gd0 rfl rfl (fun q => r_eql (gvt q) rfl) (wl_ok (r_por rfl rfl evc) (wl_nil (then_normal (wc_ifb hs rfl (fun c17 hs => ?_) (fun c17 hs => ?_)))))))))))))))))
   ·
    refine wc_seq (wc_seq (wc_region (wl_ok (r_move (v := (.int .i64 (y14))) rfl) (wl_ok (r_geq rfl rfl) (wl_nil (then_normal (wc_ifb hs rfl (fun c18 hs => ?_) (fun c18 hs => ?_))))))))
    ·
     refine wc_seq (wc_region (wl_ok (r_assign (v := (.slice none 0 0)) rfl) (wl_ok (r_assign (v := (.int .i64 (6))) rfl) (wl_nil (then_normal (wc_ret (then_ret (then_ret (fin2 (v1 := (.slice none 0 0)) (v2 := (.int .i64 (6))) Try.results38 rfl rfl ?_)))))))))
     obtain rfl := Option.some.inj hs
     exact ⟨h.grown, _, rfl, OwnSl.nil, fresh_nil⟩
    ·
     refine wc_skip (then_normal (wc_seq (wc_seq (wc_region (wl_ok (r_fieldAddr Fld61x0 rfl) (wl_ok (r_ldB h 4 rfl One3 rfl rfl) (wl_ok (r_eql rfl rfl) (wl_ok (r_move (v := (.bool (decide ((b.kind : Int) = 1)))) rfl) (wl_gd0 rfl rfl (fun q => r_fieldAddr Fld61x2 rfl) (wl_gd0 rfl rfl (fun q => r_ldB h 4 rfl One3 (gvt q) rfl) (wl_gd0 rfl rfl (fun q => r_neq (gvt q) rfl) (wl_ok (r_pand rfl rfl evc) (wl_ok (r_move (v := (.bool ((decide ((b.kind : Int) = 1) && decide ((b.epoch : Int) ≠ 1))))) rfl) (wl_gd0 rfl rfl (fun q => r_fieldAddr Fld61x0 rfl) (wl_gd0 rfl rfl (fun q => r_ldB h 4 rfl One3 (gvt q) rfl) (wl_gd0 rfl rfl (fun q => r_eql (gvt q) rfl) (wl_gd0 rfl rfl (fun q => r_move (v := (.bool (decide ((b.kind : Int) = 4)))) (gvt q)) (wl_gd ((decide ((b.kind : Int) = 1) && decide ((b.epoch : Int) ≠ 1)) == false) rfl rfl (fun q => r_fieldAddr Fld61x2 rfl) (wl_gd ((decide ((b.kind : Int) = 1) && decide ((b.epoch : Int) ≠ 1)) == false) rfl rfl (fun q => r_ldB h 4 rfl One3 (gvt q) rfl) (wl_gd ((decide ((b.kind : Int) = 1) && decide ((b.epoch : Int) ≠ 1)) == false) rfl rfl (fun q => r_eql (gvt q) rfl) (wl_gd0 rfl rfl (fun q => r_pand (gvt q) (gvn q) evc) (wl_ok (r_por rfl rfl evc) (wl_nil ?_)))))))))))))))))))))))
     refine then_normal (wc_ifb hs rfl (fun c19 hs => ?_) (fun c19 hs => ?_))
     ·
      refine wc_seq (wc_region (wl_ok (r_assign (v := (.slice none 0 0)) rfl) (wl_ok (r_assign (v := (.int .i64 (7))) rfl) (wl_nil (then_normal (wc_ret (then_ret (then_ret (fin2 (v1 := (.slice none 0 0)) (v2 := (.int .i64 (7))) Try.results38 rfl rfl ?_)))))))))
      obtain rfl := Option.some.inj hs
      exact ⟨h.grown, _, rfl, OwnSl.nil, fresh_nil⟩
     ·
      refine wc_skip (then_normal (wc_seq (wc_region (wl_ok (r_assign (v := (.int .i64 (0))) rfl) (wl_nil (then_normal (wc_seq (wc_block (wc_lp (σ := Nat × Int) (inl [9, 55, 56, 57, 58, 59, 60, 61, 62, 63, 64, 65, 66, 67, 68, 69, 70]) (fun ⟨m27, x23⟩ => [(9, (.int .i64 (x23)))]) (fun ⟨m27, x23⟩ w => SH w0 M BE w (hset [(2, .sr rInt vb4 b.says), (3, .sr rInt vb5 b.image), (4, .blk b1 [(.int .i64 (b.kind)), (.int .i64 (b.co)), (.int .i64 (b.epoch)), (.int .i64 (b.place)), vb4, vb5]), (5, .own rCo 66 u10 y8)]) ∧ again (place_Next_b28 y8 b) m27 x23 = some r) (fun ⟨m27, x23⟩ => m27) ⟨N, 0⟩ ⟨rfl, trivial⟩ ?_ ?_)))))))))
      ·
       exact ⟨h.cn _, hs⟩
      ·
       rintro ⟨m27, x23⟩ w junk ⟨h, hs⟩
       obtain ⟨m271, m27e, m27h⟩ := again_pos hs
       subst m27e
       replace hs := m27h
       generalize hnx28 : again (place_Next_b28 y8 b) m271 = nx28 at hs
       refine wc_seq (wc_join (σ := Bool) (inl [55, 56, 57, 58, 59, 60, 61, 62, 63, 64, 65, 66, 67, 68]) (fun x31 => [(68, (.bool (x31)))]) (fun x31 w => SH w0 M BE w (hset [(2, .sr rInt vb4 b.says), (3, .sr rInt vb5 b.image), (4, .blk b1 [(.int .i64 (b.kind)), (.int .i64 (b.co)), (.int .i64 (b.epoch)), (.int .i64 (b.place)), vb4, vb5]), (5, .own rCo 66 u10 y8)]) ∧ place_Next_j27 x23 nx28 b y8 x31 = some r) ?_ ?_)
       ·
        rintro x31 w junk ⟨h, hs⟩
        refine wc_ifb hs rfl (fun c32 hs => ?_) (fun c32 hs => ?_)
        ·
         refine wc_skip (then_normal (wc_block (wc_region (wl_ok (r_move (v := (.int .i64 (x23))) rfl) ?_))))
         obtain ⟨a33, hs⟩ := o_grd hs
         refine wl_ok (r_add rfl rfl a33) (wl_ok (r_assign (v := (.int .i64 ((x23 + 1)))) rfl) (wl_nil (inBlock_normal (then_loop ?_))))
         subst hnx28
         exact lend ⟨m271, (x23 + 1)⟩ ⟨h.cn _, hs⟩
        ·
         refine wc_exit (then_exit (then_exit (inBlock_eq (then_normal (wc_seq (wck_held (L := ob u10) mixed h fun w h => whk_ok 0 (Keep.refl _ _) rfl want_none (by kernel_rfl) (by kernel_rfl) (by kernel_rfl) (fun w hk => r_move (v := u10) rfl) (whk_ok 1 (Keep.refl _ _) rfl want_none (by kernel_rfl) (by kernel_rfl) (by kernel_rfl) (fun w hk => r_move (v := (.int .i64 (x23))) rfl) (whk_ok 2 (Keep.refl _ _) rfl want_none (by kernel_rfl) (by kernel_rfl) (by kernel_rfl) (fun w hk => r_fieldAddr Fld61x1 rfl) (whk_ok 3 (Keep.refl _ _) rfl want_none (by kernel_rfl) (by kernel_rfl) (by kernel_rfl) (fun w hk => have h := h.lose 5 rfl hk; r_ldB h 4 rfl One3 rfl rfl) (whk_ok 4 (Keep.refl _ _) rfl want_none (by kernel_rfl) (by kernel_rfl) (by kernel_rfl) (fun w hk => r_fieldAddr Fld61x2 rfl) (whk_ok 5 (Keep.refl _ _) rfl want_none (by kernel_rfl) (by kernel_rfl) (by kernel_rfl) (fun w hk => have h := h.lose 5 rfl hk; r_ldB h 4 rfl One3 rfl rfl) (whk_ok 6 (Keep.refl _ _) rfl want_none (by kernel_rfl) (by kernel_rfl) (by kernel_rfl) (fun w hk => r_fieldAddr Fld61x5 rfl) (whk_ok 7 (Keep.refl _ _) rfl want_none (by kernel_rfl) (by kernel_rfl) (by kernel_rfl) (fun w hk => have h := h.lose 5 rfl hk; r_ldB h 4 rfl One24 rfl rfl) ?_)))))))))))))
         obtain ⟨ws49, ws49e⟩ : ∃ x, x = w := ⟨_, rfl⟩
         have hg50 : Keep (ob u10) ws49 w := ws49e ▸ Keep.refl (ob u10) w
         refine whk_at ws49e.symm (whk_eff 8 (by kernel_rfl) rfl want_none ?_)
         obtain ⟨y51, e52, hs⟩ := o_bind hs
         refine w_call fnOk78 rfl rfl (slices_Clone_int_c _ _ h.lt vb5 b.image (h.srS 3 rfl) _ e52) ?_
         rintro _ w ⟨k56, u53, rfl, g54, g55⟩
         refine ⟨_, rfl, ?_⟩
         replace h := h.gotOwn 6 k56 g54 g55
         have u53q : ∀ b, ob u53 b → ws49.heap.size ≤ b := fun b hb => Nat.le_trans hg50.size (g55 b hb)
         replace hg50 := hg50.grow k56
         refine wl_nil (whk_back hg50 (whk_ok 9 hg50 rfl want_none (by kernel_rfl) (by kernel_rfl) (by kernel_rfl) (fun w hk => r_build (pv := [(0, (.int .i64 (b.co))), (1, (.int .i64 (b.epoch))), (2, u53), (3, (.int .i64 (-1)))]) (out := [(.int .i64 (b.co)), (.int .i64 (b.epoch)), u53, (.int .i64 (-1))]) Struct66 rfl ⟨0, 1, [(.int .i64 (b.co))], rfl, rfl, rfl, Nat.le_of_ble_eq_true rfl, ⟨1, 1, [(.int .i64 (b.epoch))], rfl, rfl, rfl, Nat.le_of_ble_eq_true rfl, ⟨2, 1, [u53], rfl, (toList_of_one (h.ownAt 6 rfl).one), rfl, Nat.le_of_ble_eq_true rfl, ⟨3, 1, [(.int .i64 (-1))], rfl, rfl, rfl, Nat.le_of_ble_eq_true rfl, rfl⟩⟩⟩⟩) (whk_eff 10 (by kernel_rfl) rfl want_none ?_)))
         replace h := h.freeze 6 rfl
         refine w_bsG (R := rCo) (vs := [(.agg #[(.int .i64 (b.co)), (.int .i64 (b.epoch)), u53, (.int .i64 (-1))])]) (xs := [(⟨b.co, b.epoch, y51, -1⟩ : Co)]) h 7 ElemOf59 rfl rfl rfl ⟨⟨_, rfl, (h.rdAt 6 rfl)⟩, trivial⟩ rfl fun w u57 h u57k u57f => ?_
         have u57q : ∀ b, ob u57 b → ws49.heap.size ≤ b := fun b hb => Nat.le_trans hg50.size (u57f b hb)
         replace hg50 := hg50.grow u57k
         refine wl_nil (whk_back hg50 (whk_eff 11 (by kernel_rfl) rfl want_none ?_))
         obtain ⟨a58, hs⟩ := o_grd hs
         obtain ⟨y59, e60, hs⟩ := o_bind hs
         obtain ⟨n62, e60a, e60b, e60c⟩ := o_ins e60
         have z63 := hg50.size
         refine w_call fnOk77 rfl (la_cons rfl (la_cons (congrArg (Value.int .i64) e60a) rfl)) (slices_Insert_Co_c _ _ _ u10 u57 y8 [(⟨b.co, b.epoch, y51, -1⟩ : Co)] n62 (h.giveO 5 rfl) (h.giveO 7 rfl) rfl (ins_av h (by decide) rfl rfl) (h.apart 5 7 (by decide)) e60b a58.1 a58.2) ?_
         rintro _ w ⟨u61, rfl, e60f, e60g, e60h⟩
         refine ⟨_, rfl, ?_⟩
         replace h := h.given 5 rfl e60f e60g e60h
         replace hg50 := hg50.same e60g
         rw [← e60c] at h
         refine wl_nil (whk_back hg50 (whk_ok 12 hg50 rfl want_none (by kernel_rfl) (by kernel_rfl) (by kernel_rfl) (fun w hk => r_assign (v := u61) rfl) (whk_ok 13 hg50 rfl want_none (by kernel_rfl) (by kernel_rfl) (by kernel_rfl) (fun w hk => r_assign (v := (.int .i64 (0))) rfl) (whk_done (by kernel_rfl) (then_normal (wc_ret (then_ret (fin2 (v1 := u61) (v2 := (.int .i64 (0))) Try.results38 rfl rfl ?_))))))))
         obtain rfl := Option.some.inj hs
         exact ⟨h.grown, _, rfl, (h.outOwn 5 rfl).1, (h.outOwn 5 rfl).2⟩
       ·
        refine wc_still mixed (by kernel_rfl) h fun w h => wk_ok (r_move (v := (.int .i64 (x23))) rfl) (wk_ok (r_move (v := u10) rfl) (wk_ok (r_len SliceOf59 rfl (h.ownS 5 rfl)) (wk_ok (r_lss rfl rfl) (wk_ok (r_move (v := (.bool (decide ((x23 : Int) < (y8.length : Int))))) rfl) (c_split (b := decide ((x23 : Int) < (y8.length : Int))) hs (fun c64 hs => ?_) (fun c64 hs => ?_))))))
        ·
         refine wk_on rfl (congrArg Value.bool c64) (wk_ok (r_move (v := u10) rfl) (wk_on rfl (congrArg Value.bool c64) (wk_ok (r_move (v := (.int .i64 (x23))) rfl) (wk_on rfl (congrArg Value.bool c64) ?_))))
         obtain ⟨x65, e66, hs⟩ := o_bind hs
         obtain ⟨b68, q69, i67⟩ := h.ixO 5 rfl SliceOf59 rfl (o_idx e66).1 (o_idx e66).2
         refine wk_ok (i67 _ _ _ _ _ _ _ _ _ rfl rfl) (wk_on rfl (congrArg Value.bool c64) (wk_ok (r_fieldAddr Fld66x0 rfl) (wk_on rfl (congrArg Value.bool c64) ?_)))
         obtain ⟨cs70, m71, r72⟩ := h.elO 5 rfl q69 (o_idx e66).2
         obtain ⟨u73, rfl, g74⟩ := rCo_open r72
         replace h := h.knowRd 8 g74
         refine wk_ok (r_ldA (k := 0) m71 One3 rfl rfl) (wk_on rfl (congrArg Value.bool c64) (wk_ok (r_fieldAddr Fld61x1 rfl) (wk_on rfl (congrArg Value.bool c64) (wk_ok (r_ldB h 4 rfl One3 rfl rfl) (wk_on rfl (congrArg Value.bool c64) (wk_ok (r_lss rfl rfl) (wk_ok (r_pick (b := true) (v := (.bool (decide ((x65.id_ : Int) < b.co)))) (congrArg Value.bool c64) rfl) (wk_end (then_loop ?_)))))))))
         exact jend (decide ((x65.id_ : Int) < b.co)) ⟨h.cn _, hs⟩
        ·
         refine wk_off (b' := false) rfl (congrArg Value.bool c64) rfl (wk_off (b' := false) rfl (congrArg Value.bool c64) rfl (wk_off (b' := false) rfl (congrArg Value.bool c64) rfl (wk_off (b' := false) rfl (congrArg Value.bool c64) rfl (wk_off (b' := false) rfl (congrArg Value.bool c64) rfl (wk_off (b' := false) rfl (congrArg Value.bool c64) rfl (wk_off (b' := false) rfl (congrArg Value.bool c64) rfl (wk_off (b' := false) rfl (congrArg Value.bool c64) rfl (wk_ok (r_pick (b := false) (v := (.bool (false))) (congrArg Value.bool c64) rfl) (wk_end (then_loop ?_))))))))))
         exact jend false ⟨h.cn _, hs⟩
   ·
    refine wc_skip (then_normal (wc_seq (wc_seq (wc_region (wl_ok (r_move (v := (.int .i64 (y14))) rfl) (wl_ok (r_lss rfl rfl) (wl_nil (then_normal (wc_ifb hs rfl (fun c75 hs => ?_) (fun c75 hs => ?_))))))))))
    ·
     refine wc_seq (wc_region (wl_ok (r_assign (v := (.slice none 0 0)) rfl) (wl_ok (r_assign (v := (.int .i64 (5))) rfl) (wl_nil (then_normal (wc_ret (then_ret (fin2 (v1 := (.slice none 0 0)) (v2 := (.int .i64 (5))) Try.results38 rfl rfl ?_))))))))
     obtain rfl := Option.some.inj hs
     exact ⟨h.grown, _, rfl, OwnSl.nil, fresh_nil⟩
    ·
     refine wc_skip (then_normal (wc_seq (wc_region (wl_ok (r_move (v := u10) rfl) (wl_ok (r_move (v := (.int .i64 (y14))) rfl) ?_)))))
     obtain ⟨x76, e77, hs⟩ := o_bind hs
     obtain ⟨b79, q80, i78⟩ := h.ixO 5 rfl SliceOf59 rfl (o_idx e77).1 (o_idx e77).2
     refine wl_ok (i78 _ _ _ _ _ _ _ _ _ rfl rfl) (wl_ok (r_assign (v := (.pointer (some ⟨b79, (y14).toNat * 4, none⟩))) rfl) (wl_nil (then_normal (wc_seq (wc_join (σ := Bool) (inl [88, 89, 90, 91, 92, 93, 94, 95, 96, 97, 98, 99, 100, 101, 102, 103, 104, 105]) (fun x81 => [(105, (.bool (x81)))]) (fun x81 w => SH w0 M BE w (hset [(2, .sr rInt vb4 b.says), (3, .sr rInt vb5 b.image), (4, .blk b1 [(.int .i64 (b.kind)), (.int .i64 (b.co)), (.int .i64 (b.epoch)), (.int .i64 (b.place)), vb4, vb5]), (5, .own rCo 66 u10 y8)]) ∧ place_Next_j30 b y8 y14 x76 x81 = some r) ?_ ?_)))))
     ·
      rintro x81 w junk ⟨h, hs⟩
      refine wc_ifb hs rfl (fun c82 hs => ?_) (fun c82 hs => ?_)
      ·
       refine wc_seq (wc_region (wl_ok (r_assign (v := (.slice none 0 0)) rfl) (wl_ok (r_assign (v := (.int .i64 (7))) rfl) (wl_nil (then_normal (wc_ret (then_ret (fin2 (v1 := (.slice none 0 0)) (v2 := (.int .i64 (7))) Try.results38 rfl rfl ?_))))))))
       obtain rfl := Option.some.inj hs
       exact ⟨h.grown, _, rfl, OwnSl.nil, fresh_nil⟩
      ·
       refine wc_skip (then_normal (wc_seq (wc_seq (wc_region (wl_ok (r_fieldAddr Fld61x0 rfl) (wl_ok (r_ldB h 4 rfl One3 rfl rfl) (wl_nil (then_normal (wc_block (wc_seq (wc_region (wl_ok (r_eql rfl rfl) (wl_ok (r_assign (v := (.bool (decide ((b.kind : Int) = 2)))) rfl) (wl_nil (then_normal (wc_ifb hs rfl (fun c83 hs => ?_) (fun c83 hs => ?_)))))))))))))))))
       ·
        refine wc_region (wl_ok (r_move (v := (.pointer (some ⟨b79, (y14).toNat * 4, none⟩))) rfl) (wl_ok (r_fieldAddr Fld61x5 rfl) (wl_ok (r_ldB h 4 rfl One24 rfl rfl) ?_)))
        obtain ⟨y84, e85, hs⟩ := o_bind hs
        refine w_call fnOk78 rfl rfl (slices_Clone_int_c _ _ h.lt vb5 b.image (h.srS 3 rfl) _ e85) ?_
        rintro _ w ⟨k89, u86, rfl, g87, g88⟩
        refine ⟨_, rfl, ?_⟩
        replace h := h.gotOwn 9 k89 g87 g88
        refine wl_ok (r_nilCheck rfl) (wl_ok (r_fieldAddr Fld66x2 rfl) ?_)
        replace h := h.freeze 9 rfl
        refine w_stO (a' := { x76 with image := y84 }) h 5 rfl q80 rfl (o_idx e77).2 One24 rfl rfl (h.rdAt 9 rfl).one rfl (by rintro _ hq; obtain ⟨p2, rfl, q2⟩ := rCo_open hq; exact ⟨_, rfl, (h.rdAt 9 rfl)⟩) fun w h => wl_nil (inBlock_normal (then_normal (wc_seq (wc_region (wl_ok (r_move (v := u10) rfl) (wl_ok (r_assign (v := u10) rfl) (wl_ok (r_assign (v := (.int .i64 (0))) rfl) (wl_nil (then_normal (wc_ret (fin2 (v1 := u10) (v2 := (.int .i64 (0))) Try.results38 rfl rfl ?_)))))))))))
        obtain rfl := Option.some.inj hs
        exact ⟨h.grown, _, rfl, (h.outOwn 5 rfl).1, (h.outOwn 5 rfl).2⟩
       ·
        refine wc_seq (wc_region (wl_ok (r_eql rfl rfl) (wl_ok (r_assign (v := (.bool (decide ((b.kind : Int) = 3)))) rfl) (wl_nil (then_normal (wc_ifb hs rfl (fun c90 hs => ?_) (fun c90 hs => ?_)))))))
        ·
         refine wc_seq (wc_seq (wc_region (wl_ok (r_move (v := (.pointer (some ⟨b79, (y14).toNat * 4, none⟩))) rfl) (wl_ok (r_nilCheck rfl) (wl_ok (r_fieldAddr Fld66x1 rfl) ?_)))))
         obtain ⟨cs91, m92, r93⟩ := h.elO 5 rfl q80 (o_idx e77).2
         obtain ⟨u94, rfl, g95⟩ := rCo_open r93
         replace h := h.knowRd 10 g95
         refine wl_ok (r_ldA (k := 1) m92 One3 rfl rfl) (wl_ok (r_eql rfl rfl) (wl_nil (then_normal (wc_ifb hs rfl (fun c96 hs => ?_) (fun c96 hs => ?_)))))
         ·
          refine wc_seq (wc_region (wl_ok (r_assign (v := (.slice none 0 0)) rfl) (wl_ok (r_assign (v := (.int .i64 (2))) rfl) (wl_nil (then_normal (wc_ret (then_ret (inBlock_ret (then_ret (fin2 (v1 := (.slice none 0 0)) (v2 := (.int .i64 (2))) Try.results38 rfl rfl ?_))))))))))
          obtain rfl := Option.some.inj hs
          exact ⟨h.grown, _, rfl, OwnSl.nil, fresh_nil⟩
         ·
          refine wc_skip (then_normal (wc_region (wl_ok (r_move (v := (.pointer (some ⟨b79, (y14).toNat * 4, none⟩))) rfl) (wl_ok (r_fieldAddr Fld61x3 rfl) (wl_ok (r_ldB h 4 rfl One3 rfl rfl) (wl_ok (r_nilCheck rfl) (wl_ok (r_fieldAddr Fld66x3 rfl) (w_stO (a' := { x76 with offered := b.place }) h 5 rfl q80 rfl (o_idx e77).2 One3 rfl rfl rfl rfl (by rintro _ hq; obtain ⟨p2, rfl, q2⟩ := rCo_open hq; exact ⟨_, rfl, q2⟩) fun w h => wl_nil (inBlock_normal (then_normal (wc_seq (wc_region (wl_ok (r_move (v := u10) rfl) (wl_ok (r_assign (v := u10) rfl) (wl_ok (r_assign (v := (.int .i64 (0))) rfl) (wl_nil (then_normal (wc_ret (fin2 (v1 := u10) (v2 := (.int .i64 (0))) Try.results38 rfl rfl ?_)))))))))))))))))))
          obtain rfl := Option.some.inj hs
          exact ⟨h.grown, _, rfl, (h.outOwn 5 rfl).1, (h.outOwn 5 rfl).2⟩
        ·
         refine wc_seq (wc_region (wl_ok (r_eql rfl rfl) (wl_ok (r_assign (v := (.bool (decide ((b.kind : Int) = 5)))) rfl) (wl_nil (then_normal (wc_ifb hs rfl (fun c97 hs => ?_) (fun c97 hs => ?_)))))))
         ·
          refine wc_region (wl_ok (r_move (v := u10) rfl) (wl_ok (r_move (v := (.int .i64 (y14))) rfl) (wl_ok (r_move (v := (.int .i64 (y14))) rfl) ?_)))
          obtain ⟨a98, hs⟩ := o_grd hs
          refine wl_ok (r_add rfl rfl a98) ?_
          obtain ⟨y99, e100, hs⟩ := o_bind hs
          obtain ⟨n102, n103, e100a, e100b, e100c, e100d, e100e⟩ := o_del e100
          refine w_call fnOk79 rfl (la_cons rfl (la_cons (congrArg (Value.int .i64) e100a) (la_cons (congrArg (Value.int .i64) e100b) rfl))) (slices_Delete_Co_c _ _ u10 y8 n102 n103 (h.giveO 5 rfl) e100c e100d) ?_
          rintro _ w ⟨u101, rfl, e100f, e100g, e100h⟩
          refine ⟨_, rfl, ?_⟩
          replace h := h.given 5 rfl e100f e100g e100h
          rw [← e100e] at h
          refine wl_ok (r_assign (v := u101) rfl) (wl_nil (inBlock_normal (then_normal (wc_seq (wc_region (wl_ok (r_move (v := u101) rfl) (wl_ok (r_assign (v := u101) rfl) (wl_ok (r_assign (v := (.int .i64 (0))) rfl) (wl_nil (then_normal (wc_ret (fin2 (v1 := u101) (v2 := (.int .i64 (0))) Try.results38 rfl rfl ?_))))))))))))
          obtain rfl := Option.some.inj hs
          exact ⟨h.grown, _, rfl, (h.outOwn 5 rfl).1, (h.outOwn 5 rfl).2⟩
         ·
          refine wc_skip (inBlock_normal (then_normal (wc_seq (wc_region (wl_ok (r_move (v := u10) rfl) (wl_ok (r_assign (v := u10) rfl) (wl_ok (r_assign (v := (.int .i64 (0))) rfl) (wl_nil (then_normal (wc_ret (fin2 (v1 := u10) (v2 := (.int .i64 (0))) Try.results38 rfl rfl ?_)))))))))))
          obtain rfl := Option.some.inj hs
          exact ⟨h.grown, _, rfl, (h.outOwn 5 rfl).1, (h.outOwn 5 rfl).2⟩
     ·
      refine wc_still mixed (by kernel_rfl) h fun w h => wk_ok (r_move (v := (.pointer (some ⟨b79, (y14).toNat * 4, none⟩))) rfl) (wk_ok (r_nilCheck rfl) (wk_ok (r_fieldAddr Fld66x1 rfl) ?_))
      obtain ⟨cs104, m105, r106⟩ := h.elO 5 rfl q80 (o_idx e77).2
      obtain ⟨u107, rfl, g108⟩ := rCo_open r106
      replace h := h.knowRd 11 g108
      refine wk_ok (r_ldA (k := 1) m105 One3 rfl rfl) (wk_ok (r_fieldAddr Fld61x2 rfl) (wk_ok (r_ldB h 4 rfl One3 rfl rfl) (wk_ok (r_neq rfl rfl) (wk_ok (r_move (v := (.bool (decide ((x76.epoch : Int) ≠ b.epoch)))) rfl) (c_split (b := decide ((x76.epoch : Int) ≠ b.epoch)) hs (fun c109 hs => ?_) (fun c109 hs => ?_))))))
      ·
       refine wk_off (b' := true) rfl (congrArg Value.bool c109) rfl (wk_off (b' := true) rfl (congrArg Value.bool c109) rfl (wk_off (b' := true) rfl (congrArg Value.bool c109) rfl (wk_off (b' := true) rfl (congrArg Value.bool c109) rfl (wk_off (b' := true) rfl (congrArg Value.bool c109) rfl (wk_off (b' := true) rfl (congrArg Value.bool c109) rfl (wk_off (b' := true) rfl (congrArg Value.bool c109) rfl (wk_off (b' := true) rfl (congrArg Value.bool c109) rfl (wk_off (b' := true) rfl (congrArg Value.bool c109) rfl (wk_ok (r_pick (b := true) (v := (.bool (true))) (congrArg Value.bool c109) rfl) (wk_end (then_loop ?_)))))))))))
       exact jend true ⟨h.cn _, hs⟩
      ·
       refine wk_on rfl (congrArg Value.bool c109) (wk_ok (r_fieldAddr Fld61x0 rfl) (wk_on rfl (congrArg Value.bool c109) (wk_ok (r_ldB h 4 rfl One3 rfl rfl) (wk_on rfl (congrArg Value.bool c109) (wk_ok (r_eql rfl rfl) (wk_on rfl (congrArg Value.bool c109) (wk_ok (r_move (v := (.pointer (some ⟨b79, (y14).toNat * 4, none⟩))) rfl) (wk_on rfl (congrArg Value.bool c109) (wk_ok (r_nilCheck rfl) (wk_on rfl (congrArg Value.bool c109) (wk_ok (r_fieldAddr Fld66x3 rfl) (wk_on rfl (congrArg Value.bool c109) ?_))))))))))))
       obtain ⟨cs110, m111, r112⟩ := h.elO 5 rfl q80 (o_idx e77).2
       obtain ⟨u113, rfl, g114⟩ := rCo_open r112
       replace h := h.knowRd 12 g114
       refine wk_ok (r_ldA (k := 3) m111 One3 rfl rfl) (wk_on rfl (congrArg Value.bool c109) (wk_ok (r_geq rfl rfl) (wk_on rfl (congrArg Value.bool c109) (wk_ok (r_neqb Try.underlying4 rfl rfl) (wk_ok (r_pick (b := false) (v := (.bool ((decide ((b.kind : Int) = 5) != decide ((0 : Int) ≤ x76.offered))))) (congrArg Value.bool c109) rfl) (wk_end (then_loop ?_)))))))
       exact jend (decide ((b.kind : Int) = 5) != decide ((0 : Int) ≤ x76.offered)) ⟨h.cn _, hs⟩
def wandererlaw_held (N : Nat) : Option Bool :=
  (place_Next N [] (⟨1, 1, 1, 0, [], [5]⟩ : Rec)).bind fun y2 => (place_Next N y2.1 (⟨3, 1, 1, 2, [], []⟩ : Rec)).bind fun y8 => (place_Next N y8.1 (⟨2, 1, 1, 0, [], [6]⟩ : Rec)).bind fun y15 => (place_Next N y8.1 (⟨5, 1, 1, 0, [], []⟩ : Rec)).bind fun y21 => bif ((((decide ((y2.2 : Int) = 0) && decide ((y8.2 : Int) = 0)) && decide ((y15.2 : Int) = 7)) && decide ((y21.2 : Int) = 0)) && decide (((y21.1.length : Int) : Int) = 0)) then (place_Find y2.1 1).bind fun y28 => bif decide ((y28 : Int) = 0) then (place_Find y2.1 0).bind fun y32 => bif decide ((y32 : Int) = -1) then (idx y8.1 0).bind fun x36 => some (decide ((x36.offered : Int) = 2)) else some false else some false else some false
theorem wandererlaw_held_c (N : Nat) (w0 : World) (M : BS) (hM : ∀ b, M b → b < w0.heap.size)  (r : Bool) (hs : wandererlaw_held N = some r) :
    Calls Try.prog 39 #[] w0 (fun e w' => Grow w0 w' ∧ e = .returned (.bool r)) := by
 refine calls_start (args := []) Try.func39 rfl Try.ntmps39 (Nat.le_of_ble_eq_true rfl) ?_
 have h := SH.init hM
 refine wc_seq (wc_region (wl_ok (r_assign (v := (.bool (false))) rfl) (wl_nil (then_normal (wc_seq (wc_region (w_bs (R := rInt) (vs := [(.int .i64 (5))]) (xs := [5]) h 1 ElemOf24 rfl rfl rfl ⟨rfl, trivial⟩ rfl fun w u1 h => wl_ok (r_build (pv := [(0, (.int .i64 (1))), (1, (.int .i64 (1))), (2, (.int .i64 (1))), (5, u1)]) (out := [(.int .i64 (1)), (.int .i64 (1)), (.int .i64 (1)), (.int .i64 (0)), (.slice none 0 0), u1]) Struct61 rfl ⟨0, 1, [(.int .i64 (1))], rfl, rfl, rfl, Nat.le_of_ble_eq_true rfl, ⟨1, 1, [(.int .i64 (1))], rfl, rfl, rfl, Nat.le_of_ble_eq_true rfl, ⟨2, 1, [(.int .i64 (1))], rfl, rfl, rfl, Nat.le_of_ble_eq_true rfl, ⟨5, 1, [u1], rfl, (toList_of_one (h.ownAt 1 rfl).one), rfl, Nat.le_of_ble_eq_true rfl, rfl⟩⟩⟩⟩) ?_)))))))
 obtain ⟨y2, e3, hs⟩ := o_bind hs
 refine w_call fnOk38 rfl rfl (place_Next_c N _ _ h.lt (.slice none 0 0) [] Rd2.nil (⟨1, 1, 1, 0, [], [5]⟩ : Rec) (.slice none 0 0) u1 Rd2.nil (h.ownS 1 rfl) _ e3) ?_
 rintro _ w ⟨k7, u4, rfl, g5, g6⟩
 refine ⟨_, rfl, ?_⟩
 replace h := h.gotOwn 2 k7 g5 g6
 refine wl_ok (r_move (v := (.tuple #[u4, (.int .i64 (y2.2))])) rfl) (wl_ok (r_extract rfl rfl) (wl_ok (r_extract rfl rfl) (wl_ok (r_assign (v := u4) rfl) (wl_ok (r_assign (v := (.int .i64 (y2.2))) rfl) (wl_nil (then_normal (wc_seq (wc_region (wl_ok (r_move (v := u4) rfl) (wl_ok (r_build (pv := [(0, (.int .i64 (3))), (1, (.int .i64 (1))), (2, (.int .i64 (1))), (3, (.int .i64 (2)))]) (out := [(.int .i64 (3)), (.int .i64 (1)), (.int .i64 (1)), (.int .i64 (2)), (.slice none 0 0), (.slice none 0 0)]) Struct61 rfl ⟨0, 1, [(.int .i64 (3))], rfl, rfl, rfl, Nat.le_of_ble_eq_true rfl, ⟨1, 1, [(.int .i64 (1))], rfl, rfl, rfl, Nat.le_of_ble_eq_true rfl, ⟨2, 1, [(.int .i64 (1))], rfl, rfl, rfl, Nat.le_of_ble_eq_true rfl, ⟨3, 1, [(.int .i64 (2))], rfl, rfl, rfl, Nat.le_of_ble_eq_true rfl, rfl⟩⟩⟩⟩) ?_))))))))))
 obtain ⟨y8, e9, hs⟩ := o_bind hs
 refine w_call fnOk38 rfl rfl (place_Next_c N _ _ h.lt u4 y2.1 (h.ownS 2 rfl) (⟨3, 1, 1, 2, [], []⟩ : Rec) (.slice none 0 0) (.slice none 0 0) Rd2.nil Rd2.nil _ e9) ?_
 rintro _ w ⟨k13, u10, rfl, g11, g12⟩
 refine ⟨_, rfl, ?_⟩
 replace h := h.gotOwn 3 k13 g11 g12
 refine wl_ok (r_move (v := (.tuple #[u10, (.int .i64 (y8.2))])) rfl) (wl_ok (r_extract rfl rfl) (wl_ok (r_extract rfl rfl) (wl_ok (r_assign (v := u10) rfl) (wl_ok (r_assign (v := (.int .i64 (y8.2))) rfl) (wl_nil (then_normal (wc_seq (wc_region (wl_ok (r_move (v := u10) rfl) (w_bs (R := rInt) (vs := [(.int .i64 (6))]) (xs := [6]) h 4 ElemOf24 rfl rfl rfl ⟨rfl, trivial⟩ rfl fun w u14 h => wl_ok (r_build (pv := [(0, (.int .i64 (2))), (1, (.int .i64 (1))), (2, (.int .i64 (1))), (5, u14)]) (out := [(.int .i64 (2)), (.int .i64 (1)), (.int .i64 (1)), (.int .i64 (0)), (.slice none 0 0), u14]) Struct61 rfl ⟨0, 1, [(.int .i64 (2))], rfl, rfl, rfl, Nat.le_of_ble_eq_true rfl, ⟨1, 1, [(.int .i64 (1))], rfl, rfl, rfl, Nat.le_of_ble_eq_true rfl, ⟨2, 1, [(.int .i64 (1))], rfl, rfl, rfl, Nat.le_of_ble_eq_true rfl, ⟨5, 1, [u14], rfl, (toList_of_one (h.ownAt 4 rfl).one), rfl, Nat.le_of_ble_eq_true rfl, rfl⟩⟩⟩⟩) ?_))))))))))
 obtain ⟨y15, e16, hs⟩ := o_bind hs
 refine w_call fnOk38 rfl rfl (place_Next_c N _ _ h.lt u10 y8.1 (h.ownS 3 rfl) (⟨2, 1, 1, 0, [], [6]⟩ : Rec) (.slice none 0 0) u14 Rd2.nil (h.ownS 4 rfl) _ e16) ?_
 rintro _ w ⟨k20, u17, rfl, g18, g19⟩
 refine ⟨_, rfl, ?_⟩
 replace h := h.gotOwn 5 k20 g18 g19
 refine wl_ok (r_move (v := (.tuple #[u17, (.int .i64 (y15.2))])) rfl) (wl_ok (r_extract rfl rfl) (wl_ok (r_extract rfl rfl) (wl_ok (r_assign (v := u17) rfl) (wl_ok (r_assign (v := (.int .i64 (y15.2))) rfl) (wl_nil (then_normal (wc_seq (wc_region (wl_ok (r_move (v := u10) rfl) (wl_ok (r_build (pv := [(0, (.int .i64 (5))), (1, (.int .i64 (1))), (2, (.int .i64 (1)))]) (out := [(.int .i64 (5)), (.int .i64 (1)), (.int .i64 (1)), (.int .i64 (0)), (.slice none 0 0), (.slice none 0 0)]) Struct61 rfl ⟨0, 1, [(.int .i64 (5))], rfl, rfl, rfl, Nat.le_of_ble_eq_true rfl, ⟨1, 1, [(.int .i64 (1))], rfl, rfl, rfl, Nat.le_of_ble_eq_true rfl, ⟨2, 1, [(.int .i64 (1))], rfl, rfl, rfl, Nat.le_of_ble_eq_true rfl, rfl⟩⟩⟩) ?_))))))))))
 obtain ⟨y21, e22, hs⟩ := o_bind hs
 refine w_call fnOk38 rfl rfl (place_Next_c N _ _ h.lt u10 y8.1 (h.ownS 3 rfl) (⟨5, 1, 1, 0, [], []⟩ : Rec) (.slice none 0 0) (.slice none 0 0) Rd2.nil Rd2.nil _ e22) ?_
 rintro _ w ⟨k26, u23, rfl, g24, g25⟩
 refine ⟨_, rfl, ?_⟩
 replace h := h.gotOwn 6 k26 g24 g25
 refine wl_ok (r_move (v := (.tuple #[u23, (.int .i64 (y21.2))])) rfl) (wl_ok (r_extract rfl rfl) (wl_ok (r_extract rfl rfl) (wl_ok (r_assign (v := u23) rfl) (wl_ok (r_assign (v := (.int .i64 (y21.2))) rfl) (wl_nil (then_normal (wc_seq (wc_region (wl_ok (r_move (v := (.int .i64 (y2.2))) rfl) (wl_ok (r_eql rfl rfl) (wl_ok (r_move (v := (.bool (decide ((y2.2 : Int) = 0)))) rfl) (wl_gd0 rfl rfl (fun q => r_move (v := (.int .i64 (y8.2))) rfl) (wl_gd0 rfl rfl (fun q => r_eql (gvt q) rfl) (wl_ok (r_pand rfl rfl evc) (wl_ok (r_move (v := (.bool ((decide ((y2.2 : Int) = 0) && decide ((y8.2 : Int) = 0))))) rfl) (wl_gd0 rfl rfl (fun q => r_move (v := (.int .i64 (y15.2))) rfl) (wl_gd0 rfl rfl (fun q => r_eql (gvt q) rfl) (wl_ok (r_pand rfl rfl evc) (wl_ok (r_move (v := (.bool (((decide ((y2.2 : Int) = 0) && decide ((y8.2 : Int) = 0)) && decide ((y15.2 : Int) = 7))))) rfl) (wl_gd0 rfl rfl (fun q => r_move (v := (.int .i64 (y21.2))) rfl) (wl_gd0 rfl rfl (fun q => r_eql (gvt q) rfl) (wl_ok (r_pand rfl rfl evc) (wl_ok (r_move (v := (.bool ((((decide ((y2.2 : Int) = 0) && decide ((y8.2 : Int) = 0)) && decide ((y15.2 : Int) = 7)) && decide ((y21.2 : Int) = 0))))) rfl) ?_)))))))))))))))))))))))
 refine wl_gd0 rfl rfl (fun q => r_move (v := u23) rfl) (wl_gd0 rfl rfl (fun q => r_len SliceOf59 (gvt q) (h.ownS 6 rfl)) (wl_gd0 rfl rfl (fun q => r_eql (gvt q) rfl) (wl_ok (r_pand rfl rfl evc) (wl_ok (r_move (v := (.bool (((((decide ((y2.2 : Int) = 0) && decide ((y8.2 : Int) = 0)) && decide ((y15.2 : Int) = 7)) && decide ((y21.2 : Int) = 0)) && decide (((y21.1.length : Int) : Int) = 0))))) rfl) (c_split (b := ((((decide ((y2.2 : Int) = 0) && decide ((y8.2 : Int) = 0)) && decide ((y15.2 : Int) = 7)) && decide ((y21.2 : Int) = 0)) && decide (((y21.1.length : Int) : Int) = 0))) hs (fun c27 hs => ?_) (fun c27 hs => ?_))))))
 ·
  refine wl_on rfl (congrArg Value.bool c27) (wl_ok (r_move (v := u4) rfl) (wl_on rfl (congrArg Value.bool c27) ?_))
  obtain ⟨y28, e29, hs⟩ := o_bind hs
  refine w_call fnOk41 rfl rfl (place_Find_c _ _ h.lt u4 y2.1 (h.ownS 2 rfl) 1 _ e29) ?_
  rintro _ w ⟨k30, rfl⟩
  refine ⟨_, rfl, ?_⟩
  replace h := h.grow k30
  refine wl_on rfl (congrArg Value.bool c27) (wl_ok (r_eql rfl rfl) (wl_ok (r_pick (b := true) (v := (.bool (decide ((y28 : Int) = 0)))) (congrArg Value.bool c27) rfl) (wl_ok (r_move (v := (.bool (decide ((y28 : Int) = 0)))) rfl) (c_split (b := decide ((y28 : Int) = 0)) hs (fun c31 hs => ?_) (fun c31 hs => ?_)))))
  ·
   refine wl_on rfl (congrArg Value.bool c31) (wl_ok (r_move (v := u4) rfl) (wl_on rfl (congrArg Value.bool c31) ?_))
   obtain ⟨y32, e33, hs⟩ := o_bind hs
   refine w_call fnOk41 rfl rfl (place_Find_c _ _ h.lt u4 y2.1 (h.ownS 2 rfl) 0 _ e33) ?_
   rintro _ w ⟨k34, rfl⟩
   refine ⟨_, rfl, ?_⟩
   replace h := h.grow k34
   refine wl_on rfl (congrArg Value.bool c31) (wl_ok (r_eql rfl rfl) (wl_ok (r_pick (b := true) (v := (.bool (decide ((y32 : Int) = -1)))) (congrArg Value.bool c31) rfl) (wl_ok (r_move (v := (.bool (decide ((y32 : Int) = -1)))) rfl) (c_split (b := decide ((y32 : Int) = -1)) hs (fun c35 hs => ?_) (fun c35 hs => ?_)))))
   ·
    refine wl_on rfl (congrArg Value.bool c35) (wl_ok (r_move (v := u10) rfl) (wl_on rfl (congrArg Value.bool c35) ?_))
    obtain ⟨x36, e37, hs⟩ := o_bind hs
    obtain ⟨b39, q40, i38⟩ := h.ixO 3 rfl SliceOf59 rfl (o_idx e37).1 (o_idx e37).2
    refine wl_ok (i38 _ _ _ _ _ _ _ _ _ rfl rfl) (wl_on rfl (congrArg Value.bool c35) (wl_ok (r_fieldAddr Fld66x3 rfl) (wl_on rfl (congrArg Value.bool c35) ?_)))
    obtain ⟨cs41, m42, r43⟩ := h.elO 3 rfl q40 (o_idx e37).2
    obtain ⟨u44, rfl, g45⟩ := rCo_open r43
    replace h := h.knowRd 7 g45
    refine wl_ok (r_ldA (k := 3) m42 One3 rfl rfl) (wl_on rfl (congrArg Value.bool c35) (wl_ok (r_eql rfl rfl) (wl_ok (r_pick (b := true) (v := (.bool (decide ((x36.offered : Int) = 2)))) (congrArg Value.bool c35) rfl) (wl_ok (r_assign (v := (.bool (decide ((x36.offered : Int) = 2)))) rfl) (wl_nil (then_normal (wc_ret (fin1 (v := (.bool (decide ((x36.offered : Int) = 2)))) Try.results39 rfl ?_))))))))
    obtain rfl := Option.some.inj hs
    exact ⟨h.grown, rfl⟩
   ·
    refine wl_off (b' := false) rfl (congrArg Value.bool c35) rfl (wl_off (b' := false) rfl (congrArg Value.bool c35) rfl (wl_off (b' := false) rfl (congrArg Value.bool c35) rfl (wl_off (b' := false) rfl (congrArg Value.bool c35) rfl (wl_off (b' := false) rfl (congrArg Value.bool c35) rfl (wl_ok (r_pick (b := false) (v := (.bool (false))) (congrArg Value.bool c35) rfl) (wl_ok (r_assign (v := (.bool (false))) rfl) (wl_nil (then_normal (wc_ret (fin1 (v := (.bool (false))) Try.results39 rfl ?_))))))))))
    obtain rfl := Option.some.inj hs
    exact ⟨h.grown, rfl⟩
  ·
   refine wl_off (b' := false) rfl (congrArg Value.bool c31) rfl (wl_off (b' := false) rfl (congrArg Value.bool c31) rfl (wl_off (b' := false) rfl (congrArg Value.bool c31) rfl (wl_ok (r_pick (b := false) (v := (.bool (false))) (congrArg Value.bool c31) rfl) (wl_ok (r_move (v := (.bool (false))) rfl) (wl_off (b' := false) rfl rfl rfl (wl_off (b' := false) rfl rfl rfl (wl_off (b' := false) rfl rfl rfl (wl_off (b' := false) rfl rfl rfl (wl_off (b' := false) rfl rfl rfl (wl_ok (r_pick (b := false) (v := (.bool (false))) rfl rfl) (wl_ok (r_assign (v := (.bool (false))) rfl) (wl_nil (then_normal (wc_ret (fin1 (v := (.bool (false))) Try.results39 rfl ?_)))))))))))))))
   obtain rfl := Option.some.inj hs
   exact ⟨h.grown, rfl⟩
 ·
  refine wl_off (b' := false) rfl (congrArg Value.bool c27) rfl (wl_off (b' := false) rfl (congrArg Value.bool c27) rfl (wl_off (b' := false) rfl (congrArg Value.bool c27) rfl (wl_ok (r_pick (b := false) (v := (.bool (false))) (congrArg Value.bool c27) rfl) (wl_ok (r_move (v := (.bool (false))) rfl) (wl_off (b' := false) rfl rfl rfl (wl_off (b' := false) rfl rfl rfl (wl_off (b' := false) rfl rfl rfl (wl_ok (r_pick (b := false) (v := (.bool (false))) rfl rfl) (wl_ok (r_move (v := (.bool (false))) rfl) (wl_off (b' := false) rfl rfl rfl (wl_off (b' := false) rfl rfl rfl (wl_off (b' := false) rfl rfl rfl (wl_off (b' := false) rfl rfl rfl (wl_off (b' := false) rfl rfl rfl (wl_ok (r_pick (b := false) (v := (.bool (false))) rfl rfl) (wl_ok (r_assign (v := (.bool (false))) rfl) (wl_nil (then_normal (wc_ret (fin1 (v := (.bool (false))) Try.results39 rfl ?_))))))))))))))))))))
  obtain rfl := Option.some.inj hs
  exact ⟨h.grown, rfl⟩
def slices_Equal_int_b3 (a : List Int) (b : List Int) (i3 : Int) (s : Unit) (nx6 : Unit → Option Bool) : Option Bool :=
  (idx a i3).bind fun x9 => (idx b i3).bind fun x16 => bif decide ((x9 : Int) ≠ x16) then some false else nx6 ()
def slices_Equal_int_k4 (s : Unit) : Option Bool :=
  some true
def slices_Equal_int (a : List Int) (b : List Int) : Option Bool :=
  bif decide (((a.length : Int) : Int) ≠ (b.length : Int)) then some false else upto (slices_Equal_int_b3 a b) slices_Equal_int_k4 0 ((a.length : Int)).toNat ()
theorem slices_Equal_int_c (w0 : World) (M : BS) (hM : ∀ b, M b → b < w0.heap.size) (va : Value) (a : List Int) (ha : Rd2 rInt w0 BE M va a) (vb : Value) (b : List Int) (hb : Rd2 rInt w0 BE M vb b) (r : Bool) (hs : slices_Equal_int a b = some r) :
    Calls Try.prog 14 #[va, vb] w0 (fun e w' => Grow w0 w' ∧ e = .returned (.bool r)) := by
 refine calls_start (args := [va, vb]) Try.func14 rfl Try.ntmps14 (Nat.le_of_ble_eq_true rfl) ?_
 have h := SH.init hM
 replace h := h.argSr 1 ha none_own
 replace h := h.argSr 2 hb (hupd_own_sr none_own)
 have hl_a := ha.len_le
 have hl_b := hb.len_le
 refine wc_seq (wc_region (wl_ok (r_assign (v := (.bool (false))) rfl) (wl_nil (then_normal (wc_seq (wc_seq (wc_region (wl_ok (r_move (v := va) rfl) (wl_ok (r_len SliceOf24 rfl (h.srS 1 rfl)) (wl_ok (r_move (v := vb) rfl) (wl_ok (r_len SliceOf24 rfl (h.srS 2 rfl)) (wl_ok (r_neq rfl rfl) (wl_nil (then_normal (wc_ifb hs rfl (fun c1 hs => ?_) (fun c1 hs => ?_))))))))))))))))
 ·
  refine wc_seq (wc_region (wl_ok (r_assign (v := (.bool (false))) rfl) (wl_nil (then_normal (wc_ret (then_ret (fin1 (v := (.bool (false))) Try.results14 rfl ?_)))))))
  obtain rfl := Option.some.inj hs
  exact ⟨h.grown, rfl⟩
 ·
  refine wc_skip (then_normal (wc_seq (wc_seq (wc_region (wl_ok (r_move (v := va) rfl) (wl_ok (r_len SliceOf24 rfl (h.srS 1 rfl)) (wl_ok (r_move (v := (.int .i64 (0))) rfl) (wl_nil (then_normal (wc_block ?_))))))))))
  have hli3 := (h.srS 1 rfl).len_le
  refine wc_lp (σ := Nat × Int) (inl [4, 5, 13, 14, 15, 16, 17, 18, 19, 20, 21, 22, 23, 24, 25]) (fun ⟨k2, i3⟩ => [(13, (.int .i64 (i3)))]) (fun ⟨k2, i3⟩ w => SH w0 M BE w (hset [(1, .sr rInt va a), (2, .sr rInt vb b)]) ∧ i3 = (k2 : Int) ∧ upto (slices_Equal_int_b3 a b) slices_Equal_int_k4 i3 (((a.length : Int)).toNat - k2) () = some r) (fun ⟨k2, i3⟩ => ((a.length : Int)).toNat - k2) ⟨0, 0⟩ ⟨rfl, trivial⟩ ?_ ?_
  ·
   exact ⟨h.cn _, rfl, hs⟩
  ·
   rintro ⟨k2, i3⟩ w junk ⟨h, hik, hs⟩
   refine wc_seq (wc_region ?_)
   refine wl_ok (r_lss rfl rfl) (wl_nil (then_normal ?_))
   refine wc_seq (wc_if rfl (fun e7 => ?_) (fun e7 => ?_))
   ·
    refine wc_skip (then_normal ?_)
    rw [upto_lt (by have := of_decide_eq_true e7; omega)] at hs
    generalize hnx6 : upto (slices_Equal_int_b3 a b) slices_Equal_int_k4 (i3 + 1) (((a.length : Int)).toNat - (k2 + 1)) = nx6 at hs
    have e8r : I64 (i3 + 1) := (by have := of_decide_eq_true e7; have := hli3; exact I64.mk (by omega) (by omega))
    refine wc_seq (wc_block (wc_seq (wc_region (wl_ok (r_move (v := (.int .i64 (i3))) rfl) (wl_ok (r_assign (v := (.int .i64 (i3))) rfl) (wl_nil (then_normal (wc_seq (wc_still mixed (by kernel_rfl) h fun w h => wk_ok (r_move (v := va) rfl) (wk_ok (r_move (v := (.int .i64 (i3))) rfl) ?_))))))))))
    obtain ⟨x9, e10, hs⟩ := o_bind hs
    obtain ⟨b12, o13, cs14, h, r15, i11⟩ := h.ixS 1 3 rfl SliceOf24 rfl (o_idx e10).1 (o_idx e10).2
    obtain rfl := r15
    refine wk_ok (i11 _ _ _ _ _ _ _ _ _ rfl rfl) (wk_ok (r_ldP (k := 0) h 3 rfl One3 rfl rfl) (wk_ok (r_move (v := vb) rfl) (wk_ok (r_move (v := (.int .i64 (i3))) rfl) ?_)))
    obtain ⟨x16, e17, hs⟩ := o_bind hs
    obtain ⟨b19, o20, cs21, h, r22, i18⟩ := h.ixS 2 4 rfl SliceOf24 rfl (o_idx e17).1 (o_idx e17).2
    obtain rfl := r22
    refine wk_ok (i18 _ _ _ _ _ _ _ _ _ rfl rfl) (wk_ok (r_ldP (k := 0) h 4 rfl One3 rfl rfl) (wk_ok (r_neq rfl rfl) (wk_end (then_normal (wc_ifb hs rfl (fun c23 hs => ?_) (fun c23 hs => ?_))))))
    ·
     refine wc_seq (wc_region (wl_ok (r_assign (v := (.bool (false))) rfl) (wl_nil (then_normal (wc_ret (inBlock_ret (then_ret (then_ret (inBlock_ret (then_ret (fin1 (v := (.bool (false))) Try.results14 rfl ?_)))))))))))
     obtain rfl := Option.some.inj hs
     exact ⟨h.grown, rfl⟩
    ·
     refine wc_skip (inBlock_normal (then_normal (wc_region (wl_ok (r_add rfl rfl e8r) (wl_ok (r_move (v := (.int .i64 ((i3 + 1)))) rfl) (wl_nil (then_loop ?_)))))))
     subst hnx6
     exact lend ⟨k2 + 1, i3 + 1⟩ ⟨h.cn _, by omega, hs⟩ (by have := of_decide_eq_true e7; dsimp only; omega)
   ·
    rw [upto_ge (by have := of_decide_eq_false e7; omega)] at hs
    refine wc_exit (then_exit (then_exit (inBlock_eq (then_normal (wc_seq (wc_region (wl_ok (r_assign (v := (.bool (true))) rfl) (wl_nil (then_normal (wc_ret (fin1 (v := (.bool (true))) Try.results14 rfl ?_)))))))))))
    obtain rfl := Option.some.inj hs
    exact ⟨h.grown, rfl⟩
def place_Same_j22 (nx6 : Unit → Option Bool) (x27 : Bool) : Option Bool :=
  bif x27 then some false else nx6 ()
def place_Same_b23 (b : List Co) (i3 : Int) (x4 : Co) (s : Unit) (nx6 : Unit → Option Bool) : Option Bool :=
  (idx b i3).bind fun x17 => bif ((decide ((x4.id_ : Int) = x17.id_) && decide ((x4.epoch : Int) = x17.epoch)) && decide ((x4.offered : Int) = x17.offered)) then (slices_Equal_int x4.image x17.image).bind fun y32 => place_Same_j22 nx6 (!y32) else place_Same_j22 nx6 true
def place_Same_k24 (s : Unit) : Option Bool :=
  some true
def place_Same (a : List Co) (b : List Co) : Option Bool :=
  bif decide (((a.length : Int) : Int) ≠ (b.length : Int)) then some false else eachI (place_Same_b23 b) place_Same_k24 0 a ()
theorem place_Same_c (w0 : World) (M : BS) (hM : ∀ b, M b → b < w0.heap.size) (va : Value) (a : List Co) (ha : Rd2 rCo w0 BE M va a) (vb : Value) (b : List Co) (hb : Rd2 rCo w0 BE M vb b) (r : Bool) (hs : place_Same a b = some r) :
    Calls Try.prog 42 #[va, vb] w0 (fun e w' => Grow w0 w' ∧ e = .returned (.bool r)) := by
 refine calls_start (args := [va, vb]) Try.func42 rfl Try.ntmps42 (Nat.le_of_ble_eq_true rfl) ?_
 have h := SH.init hM
 replace h := h.argSr 1 ha none_own
 replace h := h.argSr 2 hb (hupd_own_sr none_own)
 have hl_a := ha.len_le
 have hl_b := hb.len_le
 refine wc_seq (wc_region (wl_ok (r_assign (v := (.bool (false))) rfl) (wl_nil (then_normal (wc_seq (wc_region (wl_ok (r_move (v := va) rfl) (wl_ok (r_move (v := vb) rfl) (w_callIn (args := [va, vb, (.func (.func 82) #[] #[])]) fnOk81 rfl rfl (calls_start (args := [va, vb, (.func (.func 82) #[] #[])]) Try.func81 rfl Try.ntmps81 (Nat.le_of_ble_eq_true rfl) (wc_seq (wc_region (wl_ok (r_assign (v := (.bool (false))) rfl) (wl_nil (then_normal (wc_seq (wc_seq (wc_region (wl_ok (r_move (v := va) rfl) (wl_ok (r_len SliceOf59 rfl (h.srS 1 rfl)) (wl_ok (r_move (v := vb) rfl) (wl_ok (r_len SliceOf59 rfl (h.srS 2 rfl)) (wl_ok (r_neq rfl rfl) ?_)))))))))))))))))))))))
 refine wl_nil (then_normal (wc_ifb hs rfl (fun c1 hs => ?_) (fun c1 hs => ?_)))
 ·
  refine wc_seq (wc_region (wl_ok (r_assign (v := (.bool (false))) rfl) (wl_nil (then_normal (wc_ret (then_ret (fin1 (v := (.bool (false))) Try.results81 rfl (⟨_, rfl, ?_⟩))))))))
  refine wl_ok (r_assign (v := (.bool (false))) rfl) (wl_nil (then_normal (wc_ret (fin1 (v := (.bool (false))) Try.results42 rfl ?_))))
  obtain rfl := Option.some.inj hs
  exact ⟨h.grown, rfl⟩
 ·
  refine wc_skip (then_normal (wc_seq (wc_seq (wc_region (wl_ok (r_move (v := va) rfl) (wl_ok (r_len SliceOf59 rfl (h.srS 1 rfl)) (wl_ok (r_move (v := (.int .i64 (0))) rfl) (wl_nil (then_normal (wc_block (wc_lp (σ := Nat × Int) (inl [6, 7, 8, 9, 17, 18, 19, 20, 21, 22, 23, 24, 25, 26, 27, 28, 29, 30, 31]) (fun ⟨k2, i3⟩ => [(17, (.int .i64 (i3)))]) (fun ⟨k2, i3⟩ w => SH w0 M BE w (hset [(1, .sr rCo va a), (2, .sr rCo vb b)]) ∧ i3 = (k2 : Int) ∧ eachI (place_Same_b23 b) place_Same_k24 i3 (a.drop k2) () = some r) (fun ⟨k2, i3⟩ => a.length - k2) ⟨0, 0⟩ ⟨rfl, trivial⟩ ?_ ?_)))))))))))
  ·
   exact ⟨h.cn _, rfl, hs⟩
  ·
   rintro ⟨k2, i3⟩ w junk ⟨h, hik, hs⟩
   refine wc_seq (wc_region ?_)
   refine wl_ok (r_lss rfl rfl) (wl_nil (then_normal ?_))
   refine wc_seq (wc_if rfl (fun e7 => ?_) (fun e7 => ?_))
   ·
    refine wc_skip (then_normal ?_)
    obtain ⟨x4, e8a, e8b⟩ := drop_lt (hik ▸ e7)
    rw [e8b, eachI_cons] at hs
    generalize hnx6 : eachI (place_Same_b23 b) place_Same_k24 (i3 + 1) (a.drop (k2 + 1)) = nx6 at hs
    have e8r := nat_rng ((h.srS 1 rfl)).len_le hik e7
    refine wc_seq (wc_block (wc_seq (wc_region (wl_ok (r_move (v := (.int .i64 (i3))) rfl) ?_))))
    obtain ⟨b10, o11, cs12, h, r13, i9⟩ := h.ixS 1 3 rfl SliceOf59 rfl (nat_nn hik) (get_nat hik e8a)
    obtain ⟨u14, rfl, g15⟩ := rCo_open r13
    replace h := h.knowRd 4 g15.up
    refine wl_ok (i9 _ _ _ _ _ _ _ _ _ rfl rfl) (wl_ok (r_ldPN (k := 0) (vs := [(.int .i64 (x4.id_)), (.int .i64 (x4.epoch)), u14, (.int .i64 (x4.offered))]) h 3 rfl Many66 rfl rfl rfl (Nat.le_of_ble_eq_true rfl)) (w_allocN h 5 Many66 fun w b16 h => wl_ok (r_assign (v := (.int .i64 (i3))) rfl) (w_stN (vs := [(.int .i64 (x4.id_)), (.int .i64 (x4.epoch)), u14, (.int .i64 (x4.offered))]) h 5 [(.int .i64 (x4.id_)), (.int .i64 (x4.epoch)), u14, (.int .i64 (x4.offered))] rfl Many66 rfl rfl rfl rfl rfl (ones_cons rfl (ones_cons rfl (ones_cons (h.rdAt 4 rfl).one (ones_cons rfl ones_nil)))) fun w h => wl_nil (then_normal (wc_seq (wc_region (wl_ok (r_move (v := vb) rfl) (wl_ok (r_move (v := (.int .i64 (i3))) rfl) ?_))))))))
    obtain ⟨x17, e18, hs⟩ := o_bind hs
    obtain ⟨b20, o21, cs22, h, r23, i19⟩ := h.ixS 2 6 rfl SliceOf59 rfl (o_idx e18).1 (o_idx e18).2
    obtain ⟨u24, rfl, g25⟩ := rCo_open r23
    replace h := h.knowRd 7 g25.up
    refine wl_ok (i19 _ _ _ _ _ _ _ _ _ rfl rfl) (wl_ok (r_ldPN (k := 0) (vs := [(.int .i64 (x17.id_)), (.int .i64 (x17.epoch)), u24, (.int .i64 (x17.offered))]) h 6 rfl Many66 rfl rfl rfl (Nat.le_of_ble_eq_true rfl)) (w_allocN h 8 Many66 fun w b26 h => w_stN (vs := [(.int .i64 (x17.id_)), (.int .i64 (x17.epoch)), u24, (.int .i64 (x17.offered))]) h 8 [(.int .i64 (x17.id_)), (.int .i64 (x17.epoch)), u24, (.int .i64 (x17.offered))] rfl Many66 rfl rfl rfl rfl rfl (ones_cons rfl (ones_cons rfl (ones_cons (h.rdAt 7 rfl).one (ones_cons rfl ones_nil)))) fun w h => wl_nil (then_normal (wc_join (σ := Bool) (inl [26, 27, 28, 29, 30]) (fun x27 => [(30, (.bool (x27)))]) (fun x27 w => SH w0 M BE w (hset [(1, .sr rCo va a), (2, .sr rCo vb b)]) ∧ place_Same_j22 nx6 x27 = some r) ?_ ?_))))
    ·
     rintro x27 w junk ⟨h, hs⟩
     refine wc_ifb hs rfl (fun c28 hs => ?_) (fun c28 hs => ?_)
     ·
      refine wc_seq (wc_region (wl_ok (r_assign (v := (.bool (false))) rfl) (wl_nil (then_normal (wc_ret (inBlock_ret (then_ret (then_ret (inBlock_ret (then_ret (fin1 (v := (.bool (false))) Try.results81 rfl (⟨_, rfl, ?_⟩))))))))))))
      refine wl_ok (r_assign (v := (.bool (false))) rfl) (wl_nil (then_normal (wc_ret (fin1 (v := (.bool (false))) Try.results42 rfl ?_))))
      obtain rfl := Option.some.inj hs
      exact ⟨h.grown, rfl⟩
     ·
      refine wc_skip (inBlock_normal (then_normal (wc_region (wl_ok (r_add rfl rfl e8r) (wl_ok (r_move (v := (.int .i64 ((i3 + 1)))) rfl) (wl_nil (then_loop ?_)))))))
      subst hnx6
      exact lend ⟨k2 + 1, i3 + 1⟩ ⟨h.cn _, by omega, hs⟩ (by have := of_decide_eq_true e7; dsimp only; omega)
    ·
     refine wc_region (wl_ok (r_move (v := (.func (.func 82) #[] #[])) rfl) (wl_ok (r_ldBN (vs := [(.int .i64 (x4.id_)), (.int .i64 (x4.epoch)), u14, (.int .i64 (x4.offered))]) h 5 rfl Many66 rfl rfl rfl) (wl_ok (r_ldBN (vs := [(.int .i64 (x17.id_)), (.int .i64 (x17.epoch)), u24, (.int .i64 (x17.offered))]) h 8 rfl Many66 rfl rfl rfl) (w_callIn (args := [(.agg #[(.int .i64 (x4.id_)), (.int .i64 (x4.epoch)), u14, (.int .i64 (x4.offered))]), (.agg #[(.int .i64 (x17.id_)), (.int .i64 (x17.epoch)), u24, (.int .i64 (x17.offered))])]) fnOk82 rfl rfl (calls_start (args := [(.agg #[(.int .i64 (x4.id_)), (.int .i64 (x4.epoch)), u14, (.int .i64 (x4.offered))]), (.agg #[(.int .i64 (x17.id_)), (.int .i64 (x17.epoch)), u24, (.int .i64 (x17.offered))])]) Try.func82 rfl Try.ntmps82 (Nat.le_of_ble_eq_true rfl) (wc_seq (wc_region (w_box (cs := [(.int .i64 (x4.id_)), (.int .i64 (x4.epoch)), u14, (.int .i64 (x4.offered))]) h 9 rfl rfl fun w b29 h => w_box (cs := [(.int .i64 (x17.id_)), (.int .i64 (x17.epoch)), u24, (.int .i64 (x17.offered))]) h 10 rfl rfl fun w b30 h => wl_ok (r_assign (v := (.bool (false))) rfl) (wl_nil (then_normal (wc_seq (wc_region (wl_ok (r_fieldAddr Fld66x0 rfl) (wl_ok (r_ldB h 9 rfl One3 rfl rfl) (wl_ok (r_fieldAddr Fld66x0 rfl) (wl_ok (r_ldB h 10 rfl One3 rfl rfl) (wl_ok (r_eql rfl rfl) (wl_ok (r_move (v := (.bool (decide ((x4.id_ : Int) = x17.id_)))) rfl) (wl_gd0 rfl rfl (fun q => r_fieldAddr Fld66x1 rfl) (wl_gd0 rfl rfl (fun q => r_ldB h 9 rfl One3 (gvt q) rfl) (wl_gd0 rfl rfl (fun q => r_fieldAddr Fld66x1 rfl) ?_)))))))))))))))))))))
     refine wl_gd0 rfl rfl (fun q => r_ldB h 10 rfl One3 (gvt q) rfl) (wl_gd0 rfl rfl (fun q => r_eql (gvt q) (gvt q)) (wl_ok (r_pand rfl rfl evc) (wl_ok (r_move (v := (.bool ((decide ((x4.id_ : Int) = x17.id_) && decide ((x4.epoch : Int) = x17.epoch))))) rfl) (wl_gd0 rfl rfl (fun q => r_fieldAddr Fld66x3 rfl) (wl_gd0 rfl rfl (fun q => r_ldB h 9 rfl One3 (gvt q) rfl) (wl_gd0 rfl rfl (fun q => r_fieldAddr Fld66x3 rfl) (wl_gd0 rfl rfl (fun q => r_ldB h 10 rfl One3 (gvt q) rfl) (wl_gd0 rfl rfl (fun q => r_eql (gvt q) (gvt q)) (wl_ok (r_pand rfl rfl evc) (wl_ok (r_move (v := (.bool (((decide ((x4.id_ : Int) = x17.id_) && decide ((x4.epoch : Int) = x17.epoch)) && decide ((x4.offered : Int) = x17.offered))))) rfl) (c_split (b := ((decide ((x4.id_ : Int) = x17.id_) && decide ((x4.epoch : Int) = x17.epoch)) && decide ((x4.offered : Int) = x17.offered))) hs (fun c31 hs => ?_) (fun c31 hs => ?_))))))))))))
     ·
      refine wl_on rfl (congrArg Value.bool c31) (wl_ok (r_fieldAddr Fld66x2 rfl) (wl_on rfl (congrArg Value.bool c31) (wl_ok (r_ldB h 9 rfl One24 rfl rfl) (wl_on rfl (congrArg Value.bool c31) (wl_ok (r_fieldAddr Fld66x2 rfl) (wl_on rfl (congrArg Value.bool c31) (wl_ok (r_ldB h 10 rfl One24 rfl rfl) (wl_on rfl (congrArg Value.bool c31) ?_))))))))
      obtain ⟨y32, e33, hs⟩ := o_bind hs
      refine w_call fnOk14 rfl rfl (slices_Equal_int_c _ _ h.lt u14 x4.image (h.rdS 4 rfl) u24 x17.image (h.rdS 7 rfl) _ e33) ?_
      rintro _ w ⟨k34, rfl⟩
      refine ⟨_, rfl, ?_⟩
      replace h := h.grow k34
      refine wl_ok (r_pick (b := true) (v := (.bool (y32))) (congrArg Value.bool c31) rfl) (wl_ok (r_assign (v := (.bool (y32))) rfl) (wl_nil (then_normal (wc_ret (fin1 (v := (.bool (y32))) Try.results82 rfl (⟨_, rfl, ?_⟩))))))
      refine wl_ok (r_notb rfl) (wl_nil (then_loop ?_))
      exact jend (!y32) ⟨h.cn _, hs⟩
     ·
      refine wl_off (b' := false) rfl (congrArg Value.bool c31) rfl (wl_off (b' := false) rfl (congrArg Value.bool c31) rfl (wl_off (b' := false) rfl (congrArg Value.bool c31) rfl (wl_off (b' := false) rfl (congrArg Value.bool c31) rfl (wl_off (b' := false) rfl (congrArg Value.bool c31) rfl (wl_ok (r_pick (b := false) (v := (.bool (false))) (congrArg Value.bool c31) rfl) (wl_ok (r_assign (v := (.bool (false))) rfl) (wl_nil (then_normal (wc_ret (fin1 (v := (.bool (false))) Try.results82 rfl (⟨_, rfl, ?_⟩)))))))))))
      refine wl_ok (r_notb rfl) (wl_nil (then_loop ?_))
      exact jend true ⟨h.cn _, hs⟩
   ·
    rw [drop_ge (hik ▸ e7), eachI_nil] at hs
    refine wc_exit (then_exit (then_exit (inBlock_eq (then_normal (wc_seq (wc_region (wl_ok (r_assign (v := (.bool (true))) rfl) (wl_nil (then_normal (wc_ret (fin1 (v := (.bool (true))) Try.results81 rfl (⟨_, rfl, ?_⟩))))))))))))
    refine wl_ok (r_assign (v := (.bool (true))) rfl) (wl_nil (then_normal (wc_ret (fin1 (v := (.bool (true))) Try.results42 rfl ?_))))
    obtain rfl := Option.some.inj hs
    exact ⟨h.grown, rfl⟩
def wandererlaw_PlaceKeeps_j20 (x19 : Co) (b : Rec) (nx21 : Unit → Option Bool) (x35 : Bool) : Option Bool :=
  bif x35 then some false else bif ((decide ((x19.id_ : Int) = b.co) && decide ((0 : Int) ≤ x19.offered)) && decide ((b.kind : Int) ≠ 5)) then some false else nx21 ()
def wandererlaw_PlaceKeeps_b21 (y2 : List Co × Int) (b : Rec) (x19 : Co) (s : Unit) (nx21 : Unit → Option Bool) : Option Bool :=
  (place_Find y2.1 x19.id_).bind fun y32 => bif decide ((x19.id_ : Int) ≠ b.co) then bif decide ((y32 : Int) < 0) then wandererlaw_PlaceKeeps_j20 x19 b nx21 true else grd (I64 (y32 + 1)) ((sub? y2.1 y32 (y32 + 1)).bind fun x41 => (place_Same x41 [x19]).bind fun y49 => wandererlaw_PlaceKeeps_j20 x19 b nx21 (!y49)) else wandererlaw_PlaceKeeps_j20 x19 b nx21 false
def wandererlaw_PlaceKeeps_k22 (s : Unit) : Option Bool :=
  some true
def wandererlaw_PlaceKeeps_j2 (y2 : List Co × Int) (b : Rec) (a : List Co) (x15 : Bool) : Option Bool :=
  bif x15 then some false else each (wandererlaw_PlaceKeeps_b21 y2 b) wandererlaw_PlaceKeeps_k22 a ()
def wandererlaw_PlaceKeeps (N : Nat) (a : List Co) (b : Rec) : Option Bool :=
  (place_Next N a b).bind fun y2 => (wandererlaw_held N).bind fun y8 => bif ((!y8) || decide ((y2.2 : Int) ≠ 0)) then (wandererlaw_held N).bind fun y12 => some y12 else (place_Check y2.1).bind fun y52 => bif decide ((y52 : Int) ≠ 0) then wandererlaw_PlaceKeeps_j2 y2 b a true else grd (I64 ((a.length : Int) - 1)) (bif decide (((y2.1.length : Int) : Int) < ((a.length : Int) - 1)) then wandererlaw_PlaceKeeps_j2 y2 b a true else grd (I64 ((a.length : Int) + 1)) (wandererlaw_PlaceKeeps_j2 y2 b a (decide ((((a.length : Int) + 1) : Int) < (y2.1.length : Int)))))
theorem wandererlaw_PlaceKeeps_c (N : Nat) (w0 : World) (M : BS) (hM : ∀ b, M b → b < w0.heap.size) (va : Value) (a : List Co) (ha : Rd2 rCo w0 BE M va a) (b : Rec) (vb4 vb5 : Value) (hb4 : Rd2 rInt w0 BE M vb4 b.says) (hb5 : Rd2 rInt w0 BE M vb5 b.image) (r : Bool) (hs : wandererlaw_PlaceKeeps N a b = some r) :
    Calls Try.prog 9 #[va, (.agg #[(.int .i64 (b.kind)), (.int .i64 (b.co)), (.int .i64 (b.epoch)), (.int .i64 (b.place)), vb4, vb5])] w0 (fun e w' => Grow w0 w' ∧ e = .returned (.bool r)) := by
 refine calls_start (args := [va, (.agg #[(.int .i64 (b.kind)), (.int .i64 (b.co)), (.int .i64 (b.epoch)), (.int .i64 (b.place)), vb4, vb5])]) Try.func9 rfl Try.ntmps9 (Nat.le_of_ble_eq_true rfl) ?_
 have h := SH.init hM
 replace h := h.argSr 1 ha none_own
 replace h := h.argSr 2 hb4 (hupd_own_sr none_own)
 replace h := h.argSr 3 hb5 (hupd_own_sr (hupd_own_sr none_own))
 have hl_a := ha.len_le
 refine wc_seq (wc_region (w_box (cs := [(.int .i64 (b.kind)), (.int .i64 (b.co)), (.int .i64 (b.epoch)), (.int .i64 (b.place)), vb4, vb5]) h 4 rfl rfl fun w b1 h => wl_ok (r_assign (v := (.bool (false))) rfl) (wl_nil (then_normal (wc_seq (wc_region (wl_ok (r_move (v := va) rfl) (wl_ok (r_ldBN (vs := [(.int .i64 (b.kind)), (.int .i64 (b.co)), (.int .i64 (b.epoch)), (.int .i64 (b.place)), vb4, vb5]) h 4 rfl Many61 rfl rfl rfl) ?_))))))))
 obtain ⟨y2, e3, hs⟩ := o_bind hs
 refine w_call fnOk38 rfl rfl (place_Next_c N _ _ h.lt va a (h.srS 1 rfl) b vb4 vb5 (h.srS 2 rfl) (h.srS 3 rfl) _ e3) ?_
 rintro _ w ⟨k7, u4, rfl, g5, g6⟩
 refine ⟨_, rfl, ?_⟩
 replace h := h.gotOwn 5 k7 g5 g6
 refine wl_ok (r_move (v := (.tuple #[u4, (.int .i64 (y2.2))])) rfl) (wl_ok (r_extract rfl rfl) (wl_ok (r_extract rfl rfl) (wl_ok (r_assign (v := u4) rfl) (wl_ok (r_assign (v := (.int .i64 (y2.2))) rfl) (wl_nil (then_normal (wc_seq (wc_seq (wc_region ?_)))))))))
 obtain ⟨y8, e9, hs⟩ := o_bind hs
 refine w_call fnOk39 rfl rfl (wandererlaw_held_c N _ _ h.lt  _ e9) ?_
 rintro _ w ⟨k10, rfl⟩
 refine ⟨_, rfl, ?_⟩
 replace h := h.grow k10
 refine wl_ok (r_notb rfl) (wl_ok (r_move (v := (.bool ((!y8)))) rfl) (wl_gd0 rfl rfl (fun q => r_move (v := (.int .i64 (y2.2))) rfl) (wl_gd0 rfl rfl (fun q => r_neq (gvt q) rfl) (wl_ok (r_por rfl rfl evc) (wl_nil (then_normal (wc_ifb hs rfl (fun c11 hs => ?_) (fun c11 hs => ?_))))))))
 ·
  refine wc_seq (wc_region ?_)
  obtain ⟨y12, e13, hs⟩ := o_bind hs
  refine w_call fnOk39 rfl rfl (wandererlaw_held_c N _ _ h.lt  _ e13) ?_
  rintro _ w ⟨k14, rfl⟩
  refine ⟨_, rfl, ?_⟩
  replace h := h.grow k14
  refine wl_ok (r_assign (v := (.bool (y12))) rfl) (wl_nil (then_normal (wc_ret (then_ret (fin1 (v := (.bool (y12))) Try.results9 rfl ?_)))))
  obtain rfl := Option.some.inj hs
  exact ⟨h.grown, rfl⟩
 ·
  refine wc_skip (then_normal (wc_seq (wc_join (σ := Bool) (inl [23, 24, 25, 26, 27, 28, 29, 30, 31, 32, 33, 34, 35, 36, 37, 38, 39, 40, 41]) (fun x15 => [(41, (.bool (x15)))]) (fun x15 w => SH w0 M BE w (hset [(1, .sr rCo va a), (2, .sr rInt vb4 b.says), (3, .sr rInt vb5 b.image), (4, .blk b1 [(.int .i64 (b.kind)), (.int .i64 (b.co)), (.int .i64 (b.epoch)), (.int .i64 (b.place)), vb4, vb5]), (5, .own rCo 66 u4 y2.1)]) ∧ wandererlaw_PlaceKeeps_j2 y2 b a x15 = some r) ?_ ?_)))
  ·
   rintro x15 w junk ⟨h, hs⟩
   refine wc_ifb hs rfl (fun c16 hs => ?_) (fun c16 hs => ?_)
   ·
    refine wc_seq (wc_region (wl_ok (r_assign (v := (.bool (false))) rfl) (wl_nil (then_normal (wc_ret (then_ret (fin1 (v := (.bool (false))) Try.results9 rfl ?_)))))))
    obtain rfl := Option.some.inj hs
    exact ⟨h.grown, rfl⟩
   ·
    refine wc_skip (then_normal (wc_seq (wc_seq (wc_region (wl_ok (r_move (v := va) rfl) (wl_ok (r_len SliceOf59 rfl (h.srS 1 rfl)) (wl_ok (r_move (v := (.int .i64 (0))) rfl) (wl_nil (then_normal (wc_block (wc_lp (σ := Nat × Int) (inl [4, 8, 9, 44, 45, 46, 47, 48, 49, 50, 51, 52, 53, 54, 55, 56, 57, 58, 59, 60, 61, 62, 63, 64, 65, 66, 67, 68, 69, 70, 71, 72, 73, 74, 75, 76, 77, 78, 79, 80, 81, 82, 83, 84, 85, 86, 87]) (fun ⟨k17, i18⟩ => [(44, (.int .i64 (i18)))]) (fun ⟨k17, i18⟩ w => SH w0 M BE w (hset [(1, .sr rCo va a), (2, .sr rInt vb4 b.says), (3, .sr rInt vb5 b.image), (4, .blk b1 [(.int .i64 (b.kind)), (.int .i64 (b.co)), (.int .i64 (b.epoch)), (.int .i64 (b.place)), vb4, vb5]), (5, .own rCo 66 u4 y2.1)]) ∧ i18 = (k17 : Int) ∧ each (wandererlaw_PlaceKeeps_b21 y2 b) wandererlaw_PlaceKeeps_k22 (a.drop k17) () = some r) (fun ⟨k17, i18⟩ => a.length - k17) ⟨0, 0⟩ ⟨rfl, trivial⟩ ?_ ?_)))))))))))
    ·
     exact ⟨h.cn _, rfl, hs⟩
    ·
     rintro ⟨k17, i18⟩ w junk ⟨h, hik, hs⟩
     refine wc_seq (wc_region ?_)
     refine wl_ok (r_lss rfl rfl) (wl_nil (then_normal ?_))
     refine wc_seq (wc_if rfl (fun e22 => ?_) (fun e22 => ?_))
     ·
      refine wc_skip (then_normal ?_)
      obtain ⟨x19, e23a, e23b⟩ := drop_lt (hik ▸ e22)
      rw [e23b, each_cons] at hs
      generalize hnx21 : each (wandererlaw_PlaceKeeps_b21 y2 b) wandererlaw_PlaceKeeps_k22 (a.drop (k17 + 1)) = nx21 at hs
      have e23r := nat_rng ((h.srS 1 rfl)).len_le hik e22
      refine wc_seq (wc_block (wc_seq (wc_region ?_)))
      obtain ⟨b25, o26, cs27, h, r28, i24⟩ := h.ixS 1 6 rfl SliceOf59 rfl (nat_nn hik) (get_nat hik e23a)
      obtain ⟨u29, rfl, g30⟩ := rCo_open r28
      replace h := h.knowRd 7 g30.up
      refine wl_ok (i24 _ _ _ _ _ _ _ _ _ rfl rfl) (wl_ok (r_ldPN (k := 0) (vs := [(.int .i64 (x19.id_)), (.int .i64 (x19.epoch)), u29, (.int .i64 (x19.offered))]) h 6 rfl Many66 rfl rfl rfl (Nat.le_of_ble_eq_true rfl)) (w_allocN h 8 Many66 fun w b31 h => w_stN (vs := [(.int .i64 (x19.id_)), (.int .i64 (x19.epoch)), u29, (.int .i64 (x19.offered))]) h 8 [(.int .i64 (x19.id_)), (.int .i64 (x19.epoch)), u29, (.int .i64 (x19.offered))] rfl Many66 rfl rfl rfl rfl rfl (ones_cons rfl (ones_cons rfl (ones_cons (h.rdAt 7 rfl).one (ones_cons rfl ones_nil)))) fun w h => wl_nil (then_normal (wc_seq (wc_region (wl_ok (r_move (v := u4) rfl) (wl_ok (r_fieldAddr Fld66x0 rfl) (wl_ok (r_ldB h 8 rfl One3 rfl rfl) ?_))))))))
      obtain ⟨y32, e33, hs⟩ := o_bind hs
      refine w_call fnOk41 rfl rfl (place_Find_c _ _ h.lt u4 y2.1 (h.ownS 5 rfl) x19.id_ _ e33) ?_
      rintro _ w ⟨k34, rfl⟩
      refine ⟨_, rfl, ?_⟩
      replace h := h.grow k34
      refine wl_ok (r_assign (v := (.int .i64 (y32))) rfl) (wl_nil (then_normal (wc_seq (wc_join (σ := Bool) (inl [52, 53, 54, 55, 56, 57, 58, 59, 60, 61, 62, 63, 64, 65, 66, 67, 68, 69, 70, 71]) (fun x35 => [(71, (.bool (x35)))]) (fun x35 w => SH w0 M BE w (hset [(1, .sr rCo va a), (2, .sr rInt vb4 b.says), (3, .sr rInt vb5 b.image), (4, .blk b1 [(.int .i64 (b.kind)), (.int .i64 (b.co)), (.int .i64 (b.epoch)), (.int .i64 (b.place)), vb4, vb5]), (5, .own rCo 66 u4 y2.1), (7, .rd rInt u29 x19.image), (8, .blk b31 [(.int .i64 (x19.id_)), (.int .i64 (x19.epoch)), u29, (.int .i64 (x19.offered))])]) ∧ wandererlaw_PlaceKeeps_j20 x19 b nx21 x35 = some r) ?_ ?_))))
      ·
       rintro x35 w junk ⟨h, hs⟩
       refine wc_ifb hs rfl (fun c36 hs => ?_) (fun c36 hs => ?_)
       ·
        refine wc_seq (wc_region (wl_ok (r_assign (v := (.bool (false))) rfl) (wl_nil (then_normal (wc_ret (then_ret (inBlock_ret (then_ret (then_ret (inBlock_ret (then_ret (fin1 (v := (.bool (false))) Try.results9 rfl ?_))))))))))))
        obtain rfl := Option.some.inj hs
        exact ⟨h.grown, rfl⟩
       ·
        refine wc_skip (then_normal (wc_seq (wc_region (wl_ok (r_fieldAddr Fld66x0 rfl) (wl_ok (r_ldB h 8 rfl One3 rfl rfl) (wl_ok (r_fieldAddr Fld61x1 rfl) (wl_ok (r_ldB h 4 rfl One3 rfl rfl) (wl_ok (r_eql rfl rfl) (wl_ok (r_move (v := (.bool (decide ((x19.id_ : Int) = b.co)))) rfl) (wl_gd0 rfl rfl (fun q => r_fieldAddr Fld66x3 rfl) (wl_gd0 rfl rfl (fun q => r_ldB h 8 rfl One3 (gvt q) rfl) (wl_gd0 rfl rfl (fun q => r_geq (gvt q) rfl) (wl_ok (r_pand rfl rfl evc) (wl_ok (r_move (v := (.bool ((decide ((x19.id_ : Int) = b.co) && decide ((0 : Int) ≤ x19.offered))))) rfl) (wl_gd0 rfl rfl (fun q => r_fieldAddr Fld61x0 rfl) (wl_gd0 rfl rfl (fun q => r_ldB h 4 rfl One3 (gvt q) rfl) (wl_gd0 rfl rfl (fun q => r_neq (gvt q) rfl) (wl_ok (r_pand rfl rfl evc) (wl_nil (then_normal (wc_ifb hs rfl (fun c37 hs => ?_) (fun c37 hs => ?_))))))))))))))))))))))
        ·
         refine wc_seq (wc_region (wl_ok (r_assign (v := (.bool (false))) rfl) (wl_nil (then_normal (wc_ret (inBlock_ret (then_ret (then_ret (inBlock_ret (then_ret (fin1 (v := (.bool (false))) Try.results9 rfl ?_)))))))))))
         obtain rfl := Option.some.inj hs
         exact ⟨h.grown, rfl⟩
        ·
         refine wc_skip (inBlock_normal (then_normal (wc_region (wl_ok (r_add rfl rfl e23r) (wl_ok (r_move (v := (.int .i64 ((i18 + 1)))) rfl) (wl_nil (then_loop ?_)))))))
         subst hnx21
         exact lend ⟨k17 + 1, i18 + 1⟩ ⟨h.cn _, by omega, hs⟩ (by have := of_decide_eq_true e22; dsimp only; omega)
      ·
       refine wc_held mixed h fun w h => wh_ok 0 (Keep.refl BE _) rfl want_none (by kernel_rfl) (by kernel_rfl) (by kernel_rfl) (fun w hk => r_fieldAddr Fld66x0 rfl) (wh_ok 1 (Keep.refl BE _) rfl want_none (by kernel_rfl) (by kernel_rfl) (by kernel_rfl) (fun w hk => have h := h.grow hk; r_ldB h 8 rfl One3 rfl rfl) (wh_ok 2 (Keep.refl BE _) rfl want_none (by kernel_rfl) (by kernel_rfl) (by kernel_rfl) (fun w hk => r_fieldAddr Fld61x1 rfl) (wh_ok 3 (Keep.refl BE _) rfl want_none (by kernel_rfl) (by kernel_rfl) (by kernel_rfl) (fun w hk => have h := h.grow hk; r_ldB h 4 rfl One3 rfl rfl) (wh_ok 4 (Keep.refl BE _) rfl want_none (by kernel_rfl) (by kernel_rfl) (by kernel_rfl) (fun w hk => r_neq rfl rfl) (wh_ok 5 (Keep.refl BE _) rfl want_none (by kernel_rfl) (by kernel_rfl) (by kernel_rfl) (fun w hk => r_move (v := (.bool (decide ((x19.id_ : Int) ≠ b.co)))) rfl) (c_split (b := decide ((x19.id_ : Int) ≠ b.co)) hs (fun c38 hs => ?_) (fun c38 hs => ?_)))))))
       ·
        refine wh_ok 6 (Keep.refl BE _) rfl (want_on rfl (congrArg Value.bool c38)) (by kernel_rfl) (by kernel_rfl) (by kernel_rfl) (fun w hk => r_move (v := (.int .i64 (y32))) rfl) (wh_ok 7 (Keep.refl BE _) rfl (want_on rfl (congrArg Value.bool c38)) (by kernel_rfl) (by kernel_rfl) (by kernel_rfl) (fun w hk => r_lss rfl rfl) (wh_ok 8 (Keep.refl BE _) rfl (want_on rfl (congrArg Value.bool c38)) (by kernel_rfl) (by kernel_rfl) (by kernel_rfl) (fun w hk => r_move (v := (.bool (decide ((y32 : Int) < 0)))) rfl) (c_split (b := decide ((y32 : Int) < 0)) hs (fun c39 hs => ?_) (fun c39 hs => ?_))))
        ·
         refine wh_skip 9 (Keep.refl BE _) rfl (want_off (b' := true) rfl (congrArg Value.bool c39) rfl) (by kernel_rfl) (by kernel_rfl) (by kernel_rfl) (wh_skip 10 (Keep.refl BE _) rfl (want_off (b' := true) rfl (congrArg Value.bool c39) rfl) (by kernel_rfl) (by kernel_rfl) (by kernel_rfl) (wh_skip 11 (Keep.refl BE _) rfl (want_off (b' := true) rfl (congrArg Value.bool c39) rfl) (by kernel_rfl) (by kernel_rfl) (by kernel_rfl) (wh_skip 12 (Keep.refl BE _) rfl (want_off (b' := true) rfl (congrArg Value.bool c39) rfl) (by kernel_rfl) (by kernel_rfl) (by kernel_rfl) (wh_skip 13 (Keep.refl BE _) rfl (want_off (b' := true) rfl (congrArg Value.bool c39) rfl) (by kernel_rfl) (by kernel_rfl) (by kernel_rfl) (wh_skip 14 (Keep.refl BE _) rfl (want_off (b' := true) rfl (congrArg Value.bool c39) rfl) (by kernel_rfl) (by kernel_rfl) (by kernel_rfl) (wh_skip 15 (Keep.refl BE _) rfl (want_off (b' := true) rfl (congrArg Value.bool c39) rfl) (by kernel_rfl) (by kernel_rfl) (by kernel_rfl) (wh_skip 16 (Keep.refl BE _) rfl (want_off (b' := true) rfl (congrArg Value.bool c39) rfl) (by kernel_rfl) (by kernel_rfl) (by kernel_rfl) (wh_skip 17 (Keep.refl BE _) rfl (want_off (b' := true) rfl (congrArg Value.bool c39) rfl) (by kernel_rfl) (by kernel_rfl) (by kernel_rfl) (wh_ok 18 (Keep.refl BE _) rfl (want_on rfl (congrArg Value.bool c38)) (by kernel_rfl) (by kernel_rfl) (by kernel_rfl) (fun w hk => r_pick (b := true) (v := (.bool (true))) (congrArg Value.bool c39) rfl) (wh_ok 19 (Keep.refl BE _) rfl want_none (by kernel_rfl) (by kernel_rfl) (by kernel_rfl) (fun w hk => r_pick (b := true) (v := (.bool (true))) (congrArg Value.bool c38) rfl) (wh_done (by kernel_rfl) (then_loop ?_))))))))))))
         exact jend true ⟨h.cn _, hs⟩
        ·
         refine wh_ok 9 (Keep.refl BE _) rfl (want_on rfl (congrArg Value.bool c39)) (by kernel_rfl) (by kernel_rfl) (by kernel_rfl) (fun w hk => r_move (v := u4) rfl) (wh_ok 10 (Keep.refl BE _) rfl (want_on rfl (congrArg Value.bool c39)) (by kernel_rfl) (by kernel_rfl) (by kernel_rfl) (fun w hk => r_move (v := (.int .i64 (y32))) rfl) (wh_ok 11 (Keep.refl BE _) rfl (want_on rfl (congrArg Value.bool c39)) (by kernel_rfl) (by kernel_rfl) (by kernel_rfl) (fun w hk => r_move (v := (.int .i64 (y32))) rfl) ?_))
         obtain ⟨a40, hs⟩ := o_grd hs
         refine wh_ok 12 (Keep.refl BE _) rfl (want_on rfl (congrArg Value.bool c39)) (by kernel_rfl) (by kernel_rfl) (by kernel_rfl) (fun w hk => r_add rfl rfl a40) ?_
         obtain ⟨x41, e42, hs⟩ := o_bind hs
         obtain ⟨e45, e45a, e45b, e45c⟩ := o_sub e42
         obtain ⟨u43, i44, -, i44v⟩ := r_slv SliceOf59 (h.ownS 5 rfl) e45a e45b e45c
         refine wh_ok 13 (Keep.refl BE _) rfl (want_on rfl (congrArg Value.bool c39)) (by kernel_rfl) (by kernel_rfl) (by kernel_rfl) (fun w hk => i44 _ _ _ _ _ _ _ _ _ _ rfl (.inr (congrArg some rfl)) (.inr (congrArg some rfl))) (wh_ok 14 (Keep.refl BE _) rfl (want_on rfl (congrArg Value.bool c39)) (by kernel_rfl) (by kernel_rfl) (by kernel_rfl) (fun w hk => have h := h.grow hk; r_ldBN (vs := [(.int .i64 (x19.id_)), (.int .i64 (x19.epoch)), u29, (.int .i64 (x19.offered))]) h 8 rfl Many66 rfl rfl rfl) ?_)
         obtain ⟨ws46, ws46e⟩ : ∃ x, x = w := ⟨_, rfl⟩
         have hg47 : Grow ws46 w := ws46e ▸ Keep.refl BE w
         refine wh_at ws46e.symm (wh_eff 15 (by kernel_rfl) rfl (want_on rfl (congrArg Value.bool c39)) (w_bsG (R := rCo) (vs := [(.agg #[(.int .i64 (x19.id_)), (.int .i64 (x19.epoch)), u29, (.int .i64 (x19.offered))])]) (xs := [x19]) h 10 ElemOf59 rfl rfl rfl ⟨⟨_, rfl, (h.rdAt 7 rfl)⟩, trivial⟩ rfl fun w u48 h u48k u48f => ?_))
         have u48q : ∀ b, ob u48 b → ws46.heap.size ≤ b := fun b hb => Nat.le_trans hg47.size (u48f b hb)
         replace hg47 := hg47.trans u48k
         refine wl_nil (wh_back hg47 (wh_eff 16 (by kernel_rfl) rfl (want_on rfl (congrArg Value.bool c39)) ?_))
         obtain ⟨y49, e50, hs⟩ := o_bind hs
         refine w_call fnOk42 rfl rfl (place_Same_c _ _ h.lt u43 x41 (by rw [e45]; exact i44v _ _ _ _ (h.ownS 5 rfl) rfl) u48 [x19] (h.ownS 10 rfl) _ e50) ?_
         rintro _ w ⟨k51, rfl⟩
         refine ⟨_, rfl, ?_⟩
         replace h := h.grow k51
         replace hg47 := hg47.trans k51
         refine wl_nil (wh_back hg47 (wh_ok 17 hg47 rfl (want_on rfl (congrArg Value.bool c39)) (by kernel_rfl) (by kernel_rfl) (by kernel_rfl) (fun w hk => r_notb rfl) (wh_ok 18 hg47 rfl (want_on rfl (congrArg Value.bool c38)) (by kernel_rfl) (by kernel_rfl) (by kernel_rfl) (fun w hk => r_pick (b := false) (v := (.bool ((!y49)))) (congrArg Value.bool c39) rfl) (wh_ok 19 hg47 rfl want_none (by kernel_rfl) (by kernel_rfl) (by kernel_rfl) (fun w hk => r_pick (b := true) (v := (.bool ((!y49)))) (congrArg Value.bool c38) rfl) (wh_done (by kernel_rfl) (then_loop ?_))))))
         exact jend (!y49) ⟨h.cn _, hs⟩
       ·
        refine wh_skip 6 (Keep.refl BE _) rfl (want_off (b' := false) rfl (congrArg Value.bool c38) rfl) (by kernel_rfl) (by kernel_rfl) (by kernel_rfl) (wh_skip 7 (Keep.refl BE _) rfl (want_off (b' := false) rfl (congrArg Value.bool c38) rfl) (by kernel_rfl) (by kernel_rfl) (by kernel_rfl) (wh_skip 8 (Keep.refl BE _) rfl (want_off (b' := false) rfl (congrArg Value.bool c38) rfl) (by kernel_rfl) (by kernel_rfl) (by kernel_rfl) (wh_skip 9 (Keep.refl BE _) rfl (want_undef rfl rfl) (by kernel_rfl) (by kernel_rfl) (by kernel_rfl) (wh_skip 10 (Keep.refl BE _) rfl (want_undef rfl rfl) (by kernel_rfl) (by kernel_rfl) (by kernel_rfl) (wh_skip 11 (Keep.refl BE _) rfl (want_undef rfl rfl) (by kernel_rfl) (by kernel_rfl) (by kernel_rfl) (wh_skip 12 (Keep.refl BE _) rfl (want_undef rfl rfl) (by kernel_rfl) (by kernel_rfl) (by kernel_rfl) (wh_skip 13 (Keep.refl BE _) rfl (want_undef rfl rfl) (by kernel_rfl) (by kernel_rfl) (by kernel_rfl) (wh_skip 14 (Keep.refl BE _) rfl (want_undef rfl rfl) (by kernel_rfl) (by kernel_rfl) (by kernel_rfl) (wh_skip 15 (Keep.refl BE _) rfl (want_undef rfl rfl) (by kernel_rfl) (by kernel_rfl) (by kernel_rfl) (wh_skip 16 (Keep.refl BE _) rfl (want_undef rfl rfl) (by kernel_rfl) (by kernel_rfl) (by kernel_rfl) (wh_skip 17 (Keep.refl BE _) rfl (want_undef rfl rfl) (by kernel_rfl) (by kernel_rfl) (by kernel_rfl) (wh_skip 18 (Keep.refl BE _) rfl (want_off (b' := false) rfl (congrArg Value.bool c38) rfl) (by kernel_rfl) (by kernel_rfl) (by kernel_rfl) (wh_ok 19 (Keep.refl BE _) rfl want_none (by kernel_rfl) (by kernel_rfl) (by kernel_rfl) (fun w hk => r_pick (b := false) (v := (.bool (false))) (congrArg Value.bool c38) rfl) (wh_done (by kernel_rfl) (then_loop ?_)))))))))))))))
        exact jend false ⟨h.cn _, hs⟩
     ·
      rw [drop_ge (hik ▸ e22), each_nil] at hs
      refine wc_exit (then_exit (then_exit (inBlock_eq (then_normal (wc_seq (wc_region (wl_ok (r_assign (v := (.bool (true))) rfl) (wl_nil (then_normal (wc_ret (fin1 (v := (.bool (true))) Try.results9 rfl ?_)))))))))))
      obtain rfl := Option.some.inj hs
      exact ⟨h.grown, rfl⟩
  ·
   refine wc_region (wl_ok (r_move (v := u4) rfl) ?_)
   obtain ⟨y52, e53, hs⟩ := o_bind hs
   refine w_call fnOk40 rfl rfl (place_Check_c _ _ h.lt u4 y2.1 (h.ownS 5 rfl) _ e53) ?_
   rintro _ w ⟨k54, rfl⟩
   refine ⟨_, rfl, ?_⟩
   replace h := h.grow k54
   refine wl_ok (r_neq rfl rfl) (wl_ok (r_move (v := (.bool (decide ((y52 : Int) ≠ 0)))) rfl) (c_split (b := decide ((y52 : Int) ≠ 0)) hs (fun c55 hs => ?_) (fun c55 hs => ?_)))
   ·
    refine wl_off (b' := true) rfl (congrArg Value.bool c55) rfl (wl_off (b' := true) rfl (congrArg Value.bool c55) rfl (wl_off (b' := true) rfl (congrArg Value.bool c55) rfl (wl_off (b' := true) rfl (congrArg Value.bool c55) rfl (wl_off (b' := true) rfl (congrArg Value.bool c55) rfl (wl_off (b' := true) rfl (congrArg Value.bool c55) rfl (wl_ok (r_pick (b := true) (v := (.bool (true))) (congrArg Value.bool c55) rfl) (wl_ok (r_move (v := (.bool (true))) rfl) (wl_off (b' := true) rfl rfl rfl (wl_off (b' := true) rfl rfl rfl (wl_off (b' := true) rfl rfl rfl (wl_off (b' := true) rfl rfl rfl (wl_off (b' := true) rfl rfl rfl (wl_off (b' := true) rfl rfl rfl (wl_ok (r_pick (b := true) (v := (.bool (true))) rfl rfl) (wl_nil (then_loop ?_))))))))))))))))
    exact jend true ⟨h.cn _, hs⟩
   ·
    refine wl_on rfl (congrArg Value.bool c55) (wl_ok (r_move (v := u4) rfl) (wl_on rfl (congrArg Value.bool c55) (wl_ok (r_len SliceOf59 rfl (h.ownS 5 rfl)) (wl_on rfl (congrArg Value.bool c55) (wl_ok (r_move (v := va) rfl) (wl_on rfl (congrArg Value.bool c55) (wl_ok (r_len SliceOf59 rfl (h.srS 1 rfl)) (wl_on rfl (congrArg Value.bool c55) ?_))))))))
    obtain ⟨a56, hs⟩ := o_grd hs
    refine wl_ok (r_sub rfl rfl a56) (wl_on rfl (congrArg Value.bool c55) (wl_ok (r_lss rfl rfl) (wl_ok (r_pick (b := false) (v := (.bool (decide (((y2.1.length : Int) : Int) < ((a.length : Int) - 1))))) (congrArg Value.bool c55) rfl) (wl_ok (r_move (v := (.bool (decide (((y2.1.length : Int) : Int) < ((a.length : Int) - 1))))) rfl) (c_split (b := decide (((y2.1.length : Int) : Int) < ((a.length : Int) - 1))) hs (fun c57 hs => ?_) (fun c57 hs => ?_))))))
    ·
     refine wl_off (b' := true) rfl (congrArg Value.bool c57) rfl (wl_off (b' := true) rfl (congrArg Value.bool c57) rfl (wl_off (b' := true) rfl (congrArg Value.bool c57) rfl (wl_off (b' := true) rfl (congrArg Value.bool c57) rfl (wl_off (b' := true) rfl (congrArg Value.bool c57) rfl (wl_off (b' := true) rfl (congrArg Value.bool c57) rfl (wl_ok (r_pick (b := true) (v := (.bool (true))) (congrArg Value.bool c57) rfl) (wl_nil (then_loop ?_))))))))
     exact jend true ⟨h.cn _, hs⟩
    ·
     refine wl_on rfl (congrArg Value.bool c57) (wl_ok (r_move (v := u4) rfl) (wl_on rfl (congrArg Value.bool c57) (wl_ok (r_len SliceOf59 rfl (h.ownS 5 rfl)) (wl_on rfl (congrArg Value.bool c57) (wl_ok (r_move (v := va) rfl) (wl_on rfl (congrArg Value.bool c57) (wl_ok (r_len SliceOf59 rfl (h.srS 1 rfl)) (wl_on rfl (congrArg Value.bool c57) ?_))))))))
     obtain ⟨a58, hs⟩ := o_grd hs
     refine wl_ok (r_add rfl rfl a58) (wl_on rfl (congrArg Value.bool c57) (wl_ok (r_gtr rfl rfl) (wl_ok (r_pick (b := false) (v := (.bool (decide ((((a.length : Int) + 1) : Int) < (y2.1.length : Int))))) (congrArg Value.bool c57) rfl) (wl_nil (then_loop ?_)))))
     exact jend (decide ((((a.length : Int) + 1) : Int) < (y2.1.length : Int))) ⟨h.cn _, hs⟩
def wandererref_in (a : Int) (b : Int) (c : Int) : Bool :=
  (decide ((b : Int) ≤ a) && decide ((a : Int) ≤ c))
theorem wandererref_in_c (w0 : World) (M : BS) (hM : ∀ b, M b → b < w0.heap.size) (a : Int) (b : Int) (c : Int) (r : Bool) (hs : wandererref_in a b c = r) :
    Calls Try.prog 64 #[(.int .i64 (a)), (.int .i64 (b)), (.int .i64 (c))] w0 (fun e w' => Grow w0 w' ∧ e = .returned (.bool r)) := by
 refine calls_start (args := [(.int .i64 (a)), (.int .i64 (b)), (.int .i64 (c))]) Try.func64 rfl Try.ntmps64 (Nat.le_of_ble_eq_true rfl) ?_
 have h := SH.init hM
 refine wc_seq (wc_region (wl_ok (r_assign (v := (.bool (false))) rfl) (wl_nil (then_normal (wc_seq (wc_region (wl_ok (r_move (v := (.int .i64 (b))) rfl) (wl_ok (r_move (v := (.int .i64 (a))) rfl) (wl_ok (r_leq rfl rfl) (wl_ok (r_move (v := (.bool (decide ((b : Int) ≤ a)))) rfl) (wl_gd0 rfl rfl (fun q => r_move (v := (.int .i64 (a))) rfl) (wl_gd0 rfl rfl (fun q => r_move (v := (.int .i64 (c))) rfl) (wl_gd0 rfl rfl (fun q => r_leq (gvt q) (gvt q)) (wl_ok (r_pand rfl rfl evc) (wl_ok (r_assign (v := (.bool ((decide ((b : Int) ≤ a) && decide ((a : Int) ≤ c))))) rfl) (wl_nil (then_normal (wc_ret (fin1 (v := (.bool ((decide ((b : Int) ≤ a) && decide ((a : Int) ≤ c))))) Try.results64 rfl ?_)))))))))))))))))))
 obtain rfl := hs
 exact ⟨h.grown, rfl⟩
def wandererref_CheckCos_b3 (x8 : Co) (x5 : Int) (nx10 : Int → Int) : Int :=
  bif (((!(wandererref_in x8.id_ 0 2)) || (!(wandererref_in x8.epoch 1 100))) || (!(wandererref_in x8.offered (-1) 2))) then 3 else bif (!(wandererref_in (x8.image.length : Int) 1 1200)) then 2 else bif decide ((x8.id_ : Int) ≤ x5) then 6 else nx10 x8.id_
def wandererref_CheckCos_k4 (x5 : Int) : Int :=
  0
def wandererref_CheckCos (a : List Co) : Int :=
  bif decide ((3 : Int) < (a.length : Int)) then 2 else each wandererref_CheckCos_b3 wandererref_CheckCos_k4 a (-1)
theorem wandererref_CheckCos_c (w0 : World) (M : BS) (hM : ∀ b, M b → b < w0.heap.size) (va : Value) (a : List Co) (ha : Rd2 rCo w0 BE M va a) (r : Int) (hs : wandererref_CheckCos a = r) :
    Calls Try.prog 55 #[va] w0 (fun e w' => Grow w0 w' ∧ e = .returned (.int .i64 r)) := by
 refine calls_start (args := [va]) Try.func55 rfl Try.ntmps55 (Nat.le_of_ble_eq_true rfl) ?_
 have h := SH.init hM
 replace h := h.argSr 1 ha none_own
 have hl_a := ha.len_le
 refine wc_seq (wc_region (wl_ok (r_assign (v := (.int .i64 (0))) rfl) (wl_nil (then_normal (wc_seq (wc_seq (wc_region (wl_ok (r_move (v := va) rfl) (wl_ok (r_len SliceOf59 rfl (h.srS 1 rfl)) (wl_ok (r_gtr rfl rfl) (wl_nil (then_normal (wc_ifb hs rfl (fun c1 hs => ?_) (fun c1 hs => ?_))))))))))))))
 ·
  refine wc_seq (wc_region (wl_ok (r_assign (v := (.int .i64 (2))) rfl) (wl_nil (then_normal (wc_ret (then_ret (fin1 (v := (.int .i64 (2))) Try.results55 rfl ?_)))))))
  obtain rfl := hs
  exact ⟨h.grown, rfl⟩
 ·
  refine wc_skip (then_normal (wc_seq (wc_region (wl_ok (r_assign (v := (.int .i64 (-1))) rfl) (wl_nil (then_normal (wc_seq (wc_seq (wc_region (wl_ok (r_move (v := va) rfl) (wl_ok (r_len SliceOf59 rfl (h.srS 1 rfl)) (wl_ok (r_move (v := (.int .i64 (0))) rfl) (wl_nil (then_normal (wc_block (wc_lp (σ := Nat × Int × Int) (inl [2, 3, 5, 11, 12, 13, 14, 15, 16, 17, 18, 19, 20, 21, 22, 23, 24, 25, 26, 27, 28, 29, 30, 31, 32, 33, 34, 35, 36, 37, 38, 39, 40, 41, 42, 43, 44, 45]) (fun ⟨k6, i7, x5⟩ => [(3, (.int .i64 (x5))), (11, (.int .i64 (i7)))]) (fun ⟨k6, i7, x5⟩ w => SH w0 M BE w (hset [(1, .sr rCo va a)]) ∧ i7 = (k6 : Int) ∧ each wandererref_CheckCos_b3 wandererref_CheckCos_k4 (a.drop k6) x5 = r) (fun ⟨k6, i7, x5⟩ => a.length - k6) ⟨0, 0, -1⟩ ⟨rfl, rfl, trivial⟩ ?_ ?_))))))))))))))))
  ·
   exact ⟨h.cn _, rfl, hs⟩
  ·
   rintro ⟨k6, i7, x5⟩ w junk ⟨h, hik, hs⟩
   refine wc_seq (wc_region ?_)
   refine wl_ok (r_lss rfl rfl) (wl_nil (then_normal ?_))
   refine wc_seq (wc_if rfl (fun e11 => ?_) (fun e11 => ?_))
   ·
    refine wc_skip (then_normal ?_)
    obtain ⟨x8, e12a, e12b⟩ := drop_lt (hik ▸ e11)
    rw [e12b, each_cons] at hs
    generalize hnx10 : each wandererref_CheckCos_b3 wandererref_CheckCos_k4 (a.drop (k6 + 1)) = nx10 at hs
    have e12r := nat_rng ((h.srS 1 rfl)).len_le hik e11
    refine wc_seq (wc_block (wc_seq (wc_region ?_)))
    obtain ⟨b14, o15, cs16, h, r17, i13⟩ := h.ixS 1 2 rfl SliceOf59 rfl (nat_nn hik) (get_nat hik e12a)
    obtain ⟨u18, rfl, g19⟩ := rCo_open r17
    replace h := h.knowRd 3 g19.up
    refine wl_ok (i13 _ _ _ _ _ _ _ _ _ rfl rfl) (wl_ok (r_ldPN (k := 0) (vs := [(.int .i64 (x8.id_)), (.int .i64 (x8.epoch)), u18, (.int .i64 (x8.offered))]) h 2 rfl Many66 rfl rfl rfl (Nat.le_of_ble_eq_true rfl)) (w_allocN h 4 Many66 fun w b20 h => w_stN (vs := [(.int .i64 (x8.id_)), (.int .i64 (x8.epoch)), u18, (.int .i64 (x8.offered))]) h 4 [(.int .i64 (x8.id_)), (.int .i64 (x8.epoch)), u18, (.int .i64 (x8.offered))] rfl Many66 rfl rfl rfl rfl rfl (ones_cons rfl (ones_cons rfl (ones_cons (h.rdAt 3 rfl).one (ones_cons rfl ones_nil)))) fun w h => wl_nil (then_normal (wc_seq (wc_block (wc_seq (wc_region (wl_ok (r_fieldAddr Fld66x0 rfl) (wl_ok (r_ldB h 4 rfl One3 rfl rfl) (w_call fnOk64 rfl rfl (wandererref_in_c _ _ h.lt x8.id_ 0 2 _ rfl) ?_))))))))))
    rintro _ w ⟨k21, rfl⟩
    refine ⟨_, rfl, ?_⟩
    replace h := h.grow k21
    refine wl_ok (r_notb rfl) (wl_ok (r_move (v := (.bool ((!(wandererref_in x8.id_ 0 2))))) rfl) (wl_gd0 rfl rfl (fun q => r_fieldAddr Fld66x1 rfl) (wl_gd0 rfl rfl (fun q => r_ldB h 4 rfl One3 (gvt q) rfl) (w_callG0 rfl rfl fnOk64 rfl (fun q => la_cons (gvt q) (la_cons rfl (la_cons rfl rfl))) (wandererref_in_c _ _ h.lt x8.epoch 1 100 _ rfl) fun w k22 => ?_))))
    replace h := h.grow k22
    refine wl_gd0 rfl rfl (fun q => r_notb (gvt q)) (wl_ok (r_por rfl rfl evc) (wl_ok (r_move (v := (.bool (((!(wandererref_in x8.id_ 0 2)) || (!(wandererref_in x8.epoch 1 100)))))) rfl) (wl_gd0 rfl rfl (fun q => r_fieldAddr Fld66x3 rfl) (wl_gd0 rfl rfl (fun q => r_ldB h 4 rfl One3 (gvt q) rfl) (w_callG0 rfl rfl fnOk64 rfl (fun q => la_cons (gvt q) (la_cons rfl (la_cons rfl rfl))) (wandererref_in_c _ _ h.lt x8.offered (-1) 2 _ rfl) fun w k23 => ?_)))))
    replace h := h.grow k23
    refine wl_gd0 rfl rfl (fun q => r_notb (gvt q)) (wl_ok (r_por rfl rfl evc) (wl_ok (r_assign (v := (.bool ((((!(wandererref_in x8.id_ 0 2)) || (!(wandererref_in x8.epoch 1 100))) || (!(wandererref_in x8.offered (-1) 2)))))) rfl) (wl_nil (then_normal (wc_ifb hs rfl (fun c24 hs => ?_) (fun c24 hs => ?_))))))
    ·
     refine wc_seq (wc_region (wl_ok (r_assign (v := (.int .i64 (3))) rfl) (wl_nil (then_normal (wc_ret (inBlock_ret (then_ret (inBlock_ret (then_ret (then_ret (inBlock_ret (then_ret (fin1 (v := (.int .i64 (3))) Try.results55 rfl ?_)))))))))))))
     obtain rfl := hs
     exact ⟨h.grown, rfl⟩
    ·
     refine wc_seq (wc_region (wl_ok (r_fieldAddr Fld66x2 rfl) (wl_ok (r_ldB h 4 rfl One24 rfl rfl) (wl_ok (r_len SliceOf24 rfl (h.rdS 3 rfl)) (w_call fnOk64 rfl rfl (wandererref_in_c _ _ h.lt (x8.image.length : Int) 1 1200 _ rfl) ?_)))))
     rintro _ w ⟨k25, rfl⟩
     refine ⟨_, rfl, ?_⟩
     replace h := h.grow k25
     refine wl_ok (r_notb rfl) (wl_ok (r_assign (v := (.bool ((!(wandererref_in (x8.image.length : Int) 1 1200))))) rfl) (wl_nil (then_normal (wc_ifb hs rfl (fun c26 hs => ?_) (fun c26 hs => ?_)))))
     ·
      refine wc_seq (wc_region (wl_ok (r_assign (v := (.int .i64 (2))) rfl) (wl_nil (then_normal (wc_ret (inBlock_ret (then_ret (inBlock_ret (then_ret (then_ret (inBlock_ret (then_ret (fin1 (v := (.int .i64 (2))) Try.results55 rfl ?_)))))))))))))
      obtain rfl := hs
      exact ⟨h.grown, rfl⟩
     ·
      refine wc_seq (wc_region (wl_ok (r_fieldAddr Fld66x0 rfl) (wl_ok (r_ldB h 4 rfl One3 rfl rfl) (wl_ok (r_move (v := (.int .i64 (x5))) rfl) (wl_ok (r_leq rfl rfl) (wl_ok (r_assign (v := (.bool (decide ((x8.id_ : Int) ≤ x5)))) rfl) (wl_nil (then_normal (wc_ifb hs rfl (fun c27 hs => ?_) (fun c27 hs => ?_))))))))))
      ·
       refine wc_seq (wc_region (wl_ok (r_assign (v := (.int .i64 (6))) rfl) (wl_nil (then_normal (wc_ret (inBlock_ret (then_ret (inBlock_ret (then_ret (then_ret (inBlock_ret (then_ret (fin1 (v := (.int .i64 (6))) Try.results55 rfl ?_)))))))))))))
       obtain rfl := hs
       exact ⟨h.grown, rfl⟩
      ·
       refine wc_skip (inBlock_normal (then_normal (wc_region (wl_ok (r_fieldAddr Fld66x0 rfl) (wl_ok (r_ldB h 4 rfl One3 rfl rfl) (wl_ok (r_assign (v := (.int .i64 (x8.id_))) rfl) (wl_nil (inBlock_normal (then_normal (wc_region (wl_ok (r_add rfl rfl e12r) (wl_ok (r_move (v := (.int .i64 ((i7 + 1)))) rfl) (wl_nil (then_loop ?_))))))))))))))
       subst hnx10
       exact lend ⟨k6 + 1, i7 + 1, x8.id_⟩ ⟨h.cn _, by omega, hs⟩ (by have := of_decide_eq_true e11; dsimp only; omega)
   ·
    rw [drop_ge (hik ▸ e11), each_nil] at hs
    refine wc_exit (then_exit (then_exit (inBlock_eq (then_normal (wc_seq (wc_region (wl_ok (r_assign (v := (.int .i64 (0))) rfl) (wl_nil (then_normal (wc_ret (fin1 (v := (.int .i64 (0))) Try.results55 rfl ?_)))))))))))
    obtain rfl := hs
    exact ⟨h.grown, rfl⟩
theorem strings_Contains_c (w0 : World) (M : BS) (hM : ∀ b, M b → b < w0.heap.size) (a : Str) (b : UInt8) (r : Bool) (hs : hasB a b = r) :
    Calls Try.prog 109 #[(strV a), (strV [b])] w0 (fun e w' => Grow w0 w' ∧ e = .returned (.bool r)) := by
  refine (Try.strings_Contains_one ⟨a.toArray⟩ b w0).mono ?_
  rintro e w' ⟨rfl, rfl⟩
  subst hs
  exact ⟨Keep.refl _ _, by simp [hasB]⟩
def wandererref_CheckRec_1_80 (z0_0 : Str) : Bool :=
  (hasB z0_0 80)
theorem wandererref_CheckRec_1_80_c (w0 : World) (M : BS) (hM : ∀ b, M b → b < w0.heap.size) (z0_0 : Str) (q0 : Nat) (hq0 : ∃ E, w0.heap[q0]? = some (.cells #[(strV z0_0)] E (0, 0))) (r : Bool) (hs : wandererref_CheckRec_1_80 z0_0 = r) :
    Calls Try.prog 115 #[(strV [80]), (.pointer (some ⟨q0, 0, none⟩))] w0 (fun e w' => Grow w0 w' ∧ e = .returned (.bool r)) := by
 refine calls_start (args := [(strV [80]), (.pointer (some ⟨q0, 0, none⟩))]) Try.func115 rfl Try.ntmps115 (Nat.le_of_ble_eq_true rfl) ?_
 have h := SH.init hM
 replace h := h.argPt 1 (cs := [(strV z0_0)]) hq0 none_own
 refine wc_seq (wc_region (wl_ok (r_assign (v := (.bool (false))) rfl) (wl_nil (then_normal (wc_seq (wc_region (wl_ok (r_ldP (k := 0) h 1 rfl One9 rfl rfl) (wl_ok (r_move (v := (strV [80])) rfl) (w_call fnOk109 rfl rfl (strings_Contains_c _ _ h.lt z0_0 80 _ rfl) ?_)))))))))
 rintro _ w ⟨k1, rfl⟩
 refine ⟨_, rfl, ?_⟩
 replace h := h.grow k1
 refine wl_ok (r_assign (v := (.bool ((hasB z0_0 80)))) rfl) (wl_nil (then_normal (wc_ret (fin1 (v := (.bool ((hasB z0_0 80)))) Try.results115 rfl ?_))))
 obtain rfl := hs
 exact ⟨h.grown, rfl⟩
def wandererref_CheckRec_1_83 (z0_0 : Str) : Bool :=
  (hasB z0_0 83)
theorem wandererref_CheckRec_1_83_c (w0 : World) (M : BS) (hM : ∀ b, M b → b < w0.heap.size) (z0_0 : Str) (q0 : Nat) (hq0 : ∃ E, w0.heap[q0]? = some (.cells #[(strV z0_0)] E (0, 0))) (r : Bool) (hs : wandererref_CheckRec_1_83 z0_0 = r) :
    Calls Try.prog 115 #[(strV [83]), (.pointer (some ⟨q0, 0, none⟩))] w0 (fun e w' => Grow w0 w' ∧ e = .returned (.bool r)) := by
 refine calls_start (args := [(strV [83]), (.pointer (some ⟨q0, 0, none⟩))]) Try.func115 rfl Try.ntmps115 (Nat.le_of_ble_eq_true rfl) ?_
 have h := SH.init hM
 replace h := h.argPt 1 (cs := [(strV z0_0)]) hq0 none_own
 refine wc_seq (wc_region (wl_ok (r_assign (v := (.bool (false))) rfl) (wl_nil (then_normal (wc_seq (wc_region (wl_ok (r_ldP (k := 0) h 1 rfl One9 rfl rfl) (wl_ok (r_move (v := (strV [83])) rfl) (w_call fnOk109 rfl rfl (strings_Contains_c _ _ h.lt z0_0 83 _ rfl) ?_)))))))))
 rintro _ w ⟨k1, rfl⟩
 refine ⟨_, rfl, ?_⟩
 replace h := h.grow k1
 refine wl_ok (r_assign (v := (.bool ((hasB z0_0 83)))) rfl) (wl_nil (then_normal (wc_ret (fin1 (v := (.bool ((hasB z0_0 83)))) Try.results115 rfl ?_))))
 obtain rfl := hs
 exact ⟨h.grown, rfl⟩
def wandererref_CheckRec_1_73 (z0_0 : Str) : Bool :=
  (hasB z0_0 73)
theorem wandererref_CheckRec_1_73_c (w0 : World) (M : BS) (hM : ∀ b, M b → b < w0.heap.size) (z0_0 : Str) (q0 : Nat) (hq0 : ∃ E, w0.heap[q0]? = some (.cells #[(strV z0_0)] E (0, 0))) (r : Bool) (hs : wandererref_CheckRec_1_73 z0_0 = r) :
    Calls Try.prog 115 #[(strV [73]), (.pointer (some ⟨q0, 0, none⟩))] w0 (fun e w' => Grow w0 w' ∧ e = .returned (.bool r)) := by
 refine calls_start (args := [(strV [73]), (.pointer (some ⟨q0, 0, none⟩))]) Try.func115 rfl Try.ntmps115 (Nat.le_of_ble_eq_true rfl) ?_
 have h := SH.init hM
 replace h := h.argPt 1 (cs := [(strV z0_0)]) hq0 none_own
 refine wc_seq (wc_region (wl_ok (r_assign (v := (.bool (false))) rfl) (wl_nil (then_normal (wc_seq (wc_region (wl_ok (r_ldP (k := 0) h 1 rfl One9 rfl rfl) (wl_ok (r_move (v := (strV [73])) rfl) (w_call fnOk109 rfl rfl (strings_Contains_c _ _ h.lt z0_0 73 _ rfl) ?_)))))))))
 rintro _ w ⟨k1, rfl⟩
 refine ⟨_, rfl, ?_⟩
 replace h := h.grow k1
 refine wl_ok (r_assign (v := (.bool ((hasB z0_0 73)))) rfl) (wl_nil (then_normal (wc_ret (fin1 (v := (.bool ((hasB z0_0 73)))) Try.results115 rfl ?_))))
 obtain rfl := hs
 exact ⟨h.grown, rfl⟩
def wandererref_CheckRec_j2 (x10 : Bool) : Int :=
  bif x10 then 4 else 0
def wandererref_CheckRec (a : Rec) : Int :=
  bif (!(lk a.kind ([(1, [73]), (2, [83, 73]), (3, [80]), (4, [73]), (5, [])] : List (Int × Str))).isSome) then 4 else bif (((!(wandererref_in a.co 0 2)) || (!(wandererref_in a.epoch 0 100))) || (!(wandererref_in a.place 0 2))) then 3 else bif (decide ((40 : Int) < (a.says.length : Int)) || decide ((1200 : Int) < (a.image.length : Int))) then 2 else bif decide ((a.place : Int) ≠ 0) then bif (!(wandererref_CheckRec_1_80 ((lk a.kind ([(1, [73]), (2, [83, 73]), (3, [80]), (4, [73]), (5, [])] : List (Int × Str))).getD []))) then wandererref_CheckRec_j2 true else bif decide ((0 : Int) < (a.says.length : Int)) then bif (!(wandererref_CheckRec_1_83 ((lk a.kind ([(1, [73]), (2, [83, 73]), (3, [80]), (4, [73]), (5, [])] : List (Int × Str))).getD []))) then wandererref_CheckRec_j2 true else bif (decide ((0 : Int) < (a.image.length : Int)) != (wandererref_CheckRec_1_73 ((lk a.kind ([(1, [73]), (2, [83, 73]), (3, [80]), (4, [73]), (5, [])] : List (Int × Str))).getD []))) then wandererref_CheckRec_j2 true else wandererref_CheckRec_j2 (decide ((a.epoch : Int) = 0)) else bif (decide ((0 : Int) < (a.image.length : Int)) != (wandererref_CheckRec_1_73 ((lk a.kind ([(1, [73]), (2, [83, 73]), (3, [80]), (4, [73]), (5, [])] : List (Int × Str))).getD []))) then wandererref_CheckRec_j2 true else wandererref_CheckRec_j2 (decide ((a.epoch : Int) = 0)) else bif decide ((0 : Int) < (a.says.length : Int)) then bif (!(wandererref_CheckRec_1_83 ((lk a.kind ([(1, [73]), (2, [83, 73]), (3, [80]), (4, [73]), (5, [])] : List (Int × Str))).getD []))) then wandererref_CheckRec_j2 true else bif (decide ((0 : Int) < (a.image.length : Int)) != (wandererref_CheckRec_1_73 ((lk a.kind ([(1, [73]), (2, [83, 73]), (3, [80]), (4, [73]), (5, [])] : List (Int × Str))).getD []))) then wandererref_CheckRec_j2 true else wandererref_CheckRec_j2 (decide ((a.epoch : Int) = 0)) else bif (decide ((0 : Int) < (a.image.length : Int)) != (wandererref_CheckRec_1_73 ((lk a.kind ([(1, [73]), (2, [83, 73]), (3, [80]), (4, [73]), (5, [])] : List (Int × Str))).getD []))) then wandererref_CheckRec_j2 true else wandererref_CheckRec_j2 (decide ((a.epoch : Int) = 0))
theorem wandererref_CheckRec_c (w0 : World) (M : BS) (hM : ∀ b, M b → b < w0.heap.size) (a : Rec) (va4 va5 : Value) (ha4 : Rd2 rInt w0 BE M va4 a.says) (ha5 : Rd2 rInt w0 BE M va5 a.image) (r : Int) (hs : wandererref_CheckRec a = r) :
    Calls Try.prog 100 #[(.agg #[(.int .i64 (a.kind)), (.int .i64 (a.co)), (.int .i64 (a.epoch)), (.int .i64 (a.place)), va4, va5])] w0 (fun e w' => Grow w0 w' ∧ e = .returned (.int .i64 r)) := by
 refine calls_start (args := [(.agg #[(.int .i64 (a.kind)), (.int .i64 (a.co)), (.int .i64 (a.epoch)), (.int .i64 (a.place)), va4, va5])]) Try.func100 rfl Try.ntmps100 (Nat.le_of_ble_eq_true rfl) ?_
 have h := SH.init hM
 replace h := h.argSr 1 ha4 none_own
 replace h := h.argSr 2 ha5 (hupd_own_sr none_own)
 refine wc_seq (wc_region (w_box (cs := [(.int .i64 (a.kind)), (.int .i64 (a.co)), (.int .i64 (a.epoch)), (.int .i64 (a.place)), va4, va5]) h 3 rfl rfl fun w b1 h => wl_ok (r_assign (v := (.int .i64 (0))) rfl) (wl_nil (then_normal (wc_seq (wc_region (w_makeMap h 4 fun w b2 h => w_insert (ents' := [(1, (strV [73]))]) h 4 rfl MapOf134 rfl rfl rfl rfl fun w h => w_insert (ents' := [(1, (strV [73])), (2, (strV [83, 73]))]) h 4 rfl MapOf134 rfl rfl rfl rfl fun w h => w_insert (ents' := [(1, (strV [73])), (2, (strV [83, 73])), (3, (strV [80]))]) h 4 rfl MapOf134 rfl rfl rfl rfl fun w h => w_insert (ents' := [(1, (strV [73])), (2, (strV [83, 73])), (3, (strV [80])), (4, (strV [73]))]) h 4 rfl MapOf134 rfl rfl rfl rfl fun w h => w_insert (ents' := [(1, (strV [73])), (2, (strV [83, 73])), (3, (strV [80])), (4, (strV [73])), (5, (strV []))]) h 4 rfl MapOf134 rfl rfl rfl rfl fun w h => wl_ok (r_move (v := (.map (some b2))) rfl) (wl_ok (r_fieldAddr Fld61x0 rfl) (wl_ok (r_ldB h 3 rfl One3 rfl rfl) (wl_ok (r_lk2 (f := strV) (zz := []) ([(1, [73]), (2, [83, 73]), (3, [80]), (4, [73]), (5, [])] : List (Int × Str)) h 4 rfl MapOf134 rfl rfl rfl rfl) (wl_ok (r_move (v := (.tuple #[(strV ((lk a.kind ([(1, [73]), (2, [83, 73]), (3, [80]), (4, [73]), (5, [])] : List (Int × Str))).getD [])), (.bool ((lk a.kind ([(1, [73]), (2, [83, 73]), (3, [80]), (4, [73]), (5, [])] : List (Int × Str))).isSome))])) rfl) (wl_ok (r_extract rfl rfl) (wl_ok (r_extract rfl rfl) (w_alloc1 h 5 One9 fun w b3 h => w_st1 h 5 [(strV ((lk a.kind ([(1, [73]), (2, [83, 73]), (3, [80]), (4, [73]), (5, [])] : List (Int × Str))).getD []))] rfl One9 rfl rfl rfl rfl rfl fun w h => wl_ok (r_assign (v := (.bool ((lk a.kind ([(1, [73]), (2, [83, 73]), (3, [80]), (4, [73]), (5, [])] : List (Int × Str))).isSome))) rfl) ?_))))))))))))))
 refine wl_nil (then_normal (wc_seq (wc_block (wc_seq (wc_region (wl_ok (r_move (v := (.bool ((lk a.kind ([(1, [73]), (2, [83, 73]), (3, [80]), (4, [73]), (5, [])] : List (Int × Str))).isSome))) rfl) (wl_ok (r_notb rfl) (wl_ok (r_assign (v := (.bool ((!(lk a.kind ([(1, [73]), (2, [83, 73]), (3, [80]), (4, [73]), (5, [])] : List (Int × Str))).isSome)))) rfl) (wl_nil (then_normal (wc_ifb hs rfl (fun c4 hs => ?_) (fun c4 hs => ?_))))))))))))
 ·
  refine wc_seq (wc_region (wl_ok (r_assign (v := (.int .i64 (4))) rfl) (wl_nil (then_normal (wc_ret (inBlock_ret (then_ret (fin1 (v := (.int .i64 (4))) Try.results100 rfl ?_))))))))
  obtain rfl := hs
  exact ⟨h.grown, rfl⟩
 ·
  refine wc_seq (wc_region (wl_ok (r_fieldAddr Fld61x1 rfl) (wl_ok (r_ldB h 3 rfl One3 rfl rfl) (w_call fnOk64 rfl rfl (wandererref_in_c _ _ h.lt a.co 0 2 _ rfl) ?_))))
  rintro _ w ⟨k5, rfl⟩
  refine ⟨_, rfl, ?_⟩
  replace h := h.grow k5
  refine wl_ok (r_notb rfl) (wl_ok (r_move (v := (.bool ((!(wandererref_in a.co 0 2))))) rfl) (wl_gd0 rfl rfl (fun q => r_fieldAddr Fld61x2 rfl) (wl_gd0 rfl rfl (fun q => r_ldB h 3 rfl One3 (gvt q) rfl) (w_callG0 rfl rfl fnOk64 rfl (fun q => la_cons (gvt q) (la_cons rfl (la_cons rfl rfl))) (wandererref_in_c _ _ h.lt a.epoch 0 100 _ rfl) fun w k6 => ?_))))
  replace h := h.grow k6
  refine wl_gd0 rfl rfl (fun q => r_notb (gvt q)) (wl_ok (r_por rfl rfl evc) (wl_ok (r_move (v := (.bool (((!(wandererref_in a.co 0 2)) || (!(wandererref_in a.epoch 0 100)))))) rfl) (wl_gd0 rfl rfl (fun q => r_fieldAddr Fld61x3 rfl) (wl_gd0 rfl rfl (fun q => r_ldB h 3 rfl One3 (gvt q) rfl) (w_callG0 rfl rfl fnOk64 rfl (fun q => la_cons (gvt q) (la_cons rfl (la_cons rfl rfl))) (wandererref_in_c _ _ h.lt a.place 0 2 _ rfl) fun w k7 => ?_)))))
  replace h := h.grow k7
  refine wl_gd0 rfl rfl (fun q => r_notb (gvt q)) (wl_ok (r_por rfl rfl evc) (wl_ok (r_assign (v := (.bool ((((!(wandererref_in a.co 0 2)) || (!(wandererref_in a.epoch 0 100))) || (!(wandererref_in a.place 0 2)))))) rfl) (wl_nil (then_normal (wc_ifb hs rfl (fun c8 hs => ?_) (fun c8 hs => ?_))))))
  ·
   refine wc_seq (wc_region (wl_ok (r_assign (v := (.int .i64 (3))) rfl) (wl_nil (then_normal (wc_ret (inBlock_ret (then_ret (fin1 (v := (.int .i64 (3))) Try.results100 rfl ?_))))))))
   obtain rfl := hs
   exact ⟨h.grown, rfl⟩
  ·
   refine wc_seq (wc_region (wl_ok (r_fieldAddr Fld61x4 rfl) (wl_ok (r_ldB h 3 rfl One24 rfl rfl) (wl_ok (r_len SliceOf24 rfl (h.srS 1 rfl)) (wl_ok (r_gtr rfl rfl) (wl_ok (r_move (v := (.bool (decide ((40 : Int) < (a.says.length : Int))))) rfl) (wl_gd0 rfl rfl (fun q => r_fieldAddr Fld61x5 rfl) (wl_gd0 rfl rfl (fun q => r_ldB h 3 rfl One24 (gvt q) rfl) (wl_gd0 rfl rfl (fun q => r_len SliceOf24 (gvt q) (h.srS 2 rfl)) (wl_gd0 rfl rfl (fun q => r_gtr (gvt q) rfl) (wl_ok (r_por rfl rfl evc) (wl_ok (r_assign (v := (.bool ((decide ((40 : Int) < (a.says.length : Int)) || decide ((1200 : Int) < (a.image.length : Int)))))) rfl) (wl_nil (then_normal (wc_ifb hs rfl (fun c9 hs => ?_) (fun c9 hs => ?_))))))))))))))))
   ·
    refine wc_seq (wc_region (wl_ok (r_assign (v := (.int .i64 (2))) rfl) (wl_nil (then_normal (wc_ret (inBlock_ret (then_ret (fin1 (v := (.int .i64 (2))) Try.results100 rfl ?_))))))))
    obtain rfl := hs
    exact ⟨h.grown, rfl⟩
   ·
    refine wc_skip (inBlock_normal (then_normal (wc_seq (wc_region (wl_ok (r_makeFunc (c1 := []) (c2 := [(.pointer (some ⟨b3, 0, none⟩))]) rfl rfl) (wl_ok (r_assign (v := (.func (.func 115) #[] #[(.pointer (some ⟨b3, 0, none⟩))])) rfl) (wl_nil (then_normal (wc_seq (wc_join (σ := Bool) (inl [46, 47, 48, 49, 50, 51, 52, 53, 54, 55, 56, 57, 58, 59, 60, 61, 62, 63, 64, 65, 66, 67, 68, 69, 70, 71, 72, 73, 74, 75, 76, 77, 78]) (fun x10 => [(78, (.bool (x10)))]) (fun x10 w => SH w0 M BE w (hset []) ∧ wandererref_CheckRec_j2 x10 = r) ?_ ?_))))))))))
    ·
     rintro x10 w junk ⟨h, hs⟩
     refine wc_ifb hs rfl (fun c11 hs => ?_) (fun c11 hs => ?_)
     ·
      refine wc_seq (wc_region (wl_ok (r_assign (v := (.int .i64 (4))) rfl) (wl_nil (then_normal (wc_ret (then_ret (fin1 (v := (.int .i64 (4))) Try.results100 rfl ?_)))))))
      obtain rfl := hs
      exact ⟨h.grown, rfl⟩
     ·
      refine wc_skip (then_normal (wc_seq (wc_region (wl_ok (r_assign (v := (.int .i64 (0))) rfl) (wl_nil (then_normal (wc_ret (fin1 (v := (.int .i64 (0))) Try.results100 rfl ?_))))))))
      obtain rfl := hs
      exact ⟨h.grown, rfl⟩
    ·
     refine wc_held mixed h fun w h => wh_ok 0 (Keep.refl BE _) rfl want_none (by kernel_rfl) (by kernel_rfl) (by kernel_rfl) (fun w hk => r_fieldAddr Fld61x3 rfl) (wh_ok 1 (Keep.refl BE _) rfl want_none (by kernel_rfl) (by kernel_rfl) (by kernel_rfl) (fun w hk => have h := h.grow hk; r_ldB h 3 rfl One3 rfl rfl) (wh_ok 2 (Keep.refl BE _) rfl want_none (by kernel_rfl) (by kernel_rfl) (by kernel_rfl) (fun w hk => r_neq rfl rfl) (wh_ok 3 (Keep.refl BE _) rfl want_none (by kernel_rfl) (by kernel_rfl) (by kernel_rfl) (fun w hk => r_move (v := (.bool (decide ((a.place : Int) ≠ 0)))) rfl) (c_split (b := decide ((a.place : Int) ≠ 0)) hs (fun c12 hs => ?_) (fun c12 hs => ?_)))))
     ·
      refine wh_ok 4 (Keep.refl BE _) rfl (want_on rfl (congrArg Value.bool c12)) (by kernel_rfl) (by kernel_rfl) (by kernel_rfl) (fun w hk => r_move (v := (.func (.func 115) #[] #[(.pointer (some ⟨b3, 0, none⟩))])) rfl) ?_
      obtain ⟨ws13, ws13e⟩ : ∃ x, x = w := ⟨_, rfl⟩
      have hg14 : Grow ws13 w := ws13e ▸ Keep.refl BE w
      refine wh_at ws13e.symm (wh_eff 5 (by kernel_rfl) rfl (want_on rfl (congrArg Value.bool c12)) (w_call fnOk115 rfl rfl (wandererref_CheckRec_1_80_c _ _ h.lt ((lk a.kind ([(1, [73]), (2, [83, 73]), (3, [80]), (4, [73]), (5, [])] : List (Int × Str))).getD []) b3 (h.blkAt 5 rfl) _ rfl) ?_))
      rintro _ w ⟨k15, rfl⟩
      refine ⟨_, rfl, ?_⟩
      replace h := h.grow k15
      replace hg14 := hg14.trans k15
      refine wl_nil (wh_back hg14 (wh_ok 6 hg14 rfl (want_on rfl (congrArg Value.bool c12)) (by kernel_rfl) (by kernel_rfl) (by kernel_rfl) (fun w hk => r_notb rfl) (wh_ok 7 hg14 rfl want_none (by kernel_rfl) (by kernel_rfl) (by kernel_rfl) (fun w hk => r_pick (b := true) (v := (.bool ((!(wandererref_CheckRec_1_80 ((lk a.kind ([(1, [73]), (2, [83, 73]), (3, [80]), (4, [73]), (5, [])] : List (Int × Str))).getD [])))))) (congrArg Value.bool c12) rfl) (wh_ok 8 hg14 rfl want_none (by kernel_rfl) (by kernel_rfl) (by kernel_rfl) (fun w hk => r_move (v := (.bool ((!(wandererref_CheckRec_1_80 ((lk a.kind ([(1, [73]), (2, [83, 73]), (3, [80]), (4, [73]), (5, [])] : List (Int × Str))).getD [])))))) rfl) (c_split (b := (!(wandererref_CheckRec_1_80 ((lk a.kind ([(1, [73]), (2, [83, 73]), (3, [80]), (4, [73]), (5, [])] : List (Int × Str))).getD [])))) hs (fun c16 hs => ?_) (fun c16 hs => ?_))))))
      ·
       refine wh_skip 9 hg14 rfl (want_off (b' := true) rfl (congrArg Value.bool c16) rfl) (by kernel_rfl) (by kernel_rfl) (by kernel_rfl) (wh_skip 10 hg14 rfl (want_off (b' := true) rfl (congrArg Value.bool c16) rfl) (by kernel_rfl) (by kernel_rfl) (by kernel_rfl) (wh_skip 11 hg14 rfl (want_off (b' := true) rfl (congrArg Value.bool c16) rfl) (by kernel_rfl) (by kernel_rfl) (by kernel_rfl) (wh_skip 12 hg14 rfl (want_off (b' := true) rfl (congrArg Value.bool c16) rfl) (by kernel_rfl) (by kernel_rfl) (by kernel_rfl) (wh_skip 13 hg14 rfl (want_off (b' := true) rfl (congrArg Value.bool c16) rfl) (by kernel_rfl) (by kernel_rfl) (by kernel_rfl) (wh_skip 14 hg14 rfl (want_undef rfl rfl) (by kernel_rfl) (by kernel_rfl) (by kernel_rfl) (wh_skip 15 hg14 rfl (want_undef rfl rfl) (by kernel_rfl) (by kernel_rfl) (by kernel_rfl) (wh_skip 16 hg14 rfl (want_undef rfl rfl) (by kernel_rfl) (by kernel_rfl) (by kernel_rfl) (wh_skip 17 hg14 rfl (want_off (b' := true) rfl (congrArg Value.bool c16) rfl) (by kernel_rfl) (by kernel_rfl) (by kernel_rfl) (wh_ok 18 hg14 rfl want_none (by kernel_rfl) (by kernel_rfl) (by kernel_rfl) (fun w hk => r_pick (b := true) (v := (.bool (true))) (congrArg Value.bool c16) rfl) (wh_ok 19 hg14 rfl want_none (by kernel_rfl) (by kernel_rfl) (by kernel_rfl) (fun w hk => r_move (v := (.bool (true))) rfl) (wh_skip 20 hg14 rfl (want_off (b' := true) rfl rfl rfl) (by kernel_rfl) (by kernel_rfl) (by kernel_rfl) (wh_skip 21 hg14 rfl (want_off (b' := true) rfl rfl rfl) (by kernel_rfl) (by kernel_rfl) (by kernel_rfl) (wh_skip 22 hg14 rfl (want_off (b' := true) rfl rfl rfl) (by kernel_rfl) (by kernel_rfl) (by kernel_rfl) (wh_skip 23 hg14 rfl (want_off (b' := true) rfl rfl rfl) (by kernel_rfl) (by kernel_rfl) (by kernel_rfl) (wh_skip 24 hg14 rfl (want_off (b' := true) rfl rfl rfl) (by kernel_rfl) (by kernel_rfl) (by kernel_rfl) (wh_skip 25 hg14 rfl (want_off (b' := true) rfl rfl rfl) (by kernel_rfl) (by kernel_rfl) (by kernel_rfl) (wh_skip 26 hg14 rfl (want_off (b' := true) rfl rfl rfl) (by kernel_rfl) (by kernel_rfl) (by kernel_rfl) (wh_ok 27 hg14 rfl want_none (by kernel_rfl) (by kernel_rfl) (by kernel_rfl) (fun w hk => r_pick (b := true) (v := (.bool (true))) rfl rfl) (wh_ok 28 hg14 rfl want_none (by kernel_rfl) (by kernel_rfl) (by kernel_rfl) (fun w hk => r_move (v := (.bool (true))) rfl) (wh_skip 29 hg14 rfl (want_off (b' := true) rfl rfl rfl) (by kernel_rfl) (by kernel_rfl) (by kernel_rfl) (wh_skip 30 hg14 rfl (want_off (b' := true) rfl rfl rfl) (by kernel_rfl) (by kernel_rfl) (by kernel_rfl) (wh_skip 31 hg14 rfl (want_off (b' := true) rfl rfl rfl) (by kernel_rfl) (by kernel_rfl) (by kernel_rfl) (wh_ok 32 hg14 rfl want_none (by kernel_rfl) (by kernel_rfl) (by kernel_rfl) (fun w hk => r_pick (b := true) (v := (.bool (true))) rfl rfl) ?_)))))))))))))))))))))))
       refine wh_done (by kernel_rfl) (then_loop ?_)
       exact jend true ⟨h.cn _, hs⟩
      ·
       refine wh_ok 9 hg14 rfl (want_on rfl (congrArg Value.bool c16)) (by kernel_rfl) (by kernel_rfl) (by kernel_rfl) (fun w hk => r_fieldAddr Fld61x4 rfl) (wh_base hg14 ?_)
       obtain ⟨ws17, ws17e⟩ : ∃ x, x = w := ⟨_, rfl⟩
       have hg18 : Grow ws17 w := ws17e ▸ Keep.refl _ _
       refine wh_ok 10 (Keep.refl BE _) rfl (want_on rfl (congrArg Value.bool c16)) (by kernel_rfl) (by kernel_rfl) (by kernel_rfl) (fun w hk => have h := h.grow hk; r_ldB h 3 rfl One24 rfl rfl) (wh_ok 11 (Keep.refl BE _) rfl (want_on rfl (congrArg Value.bool c16)) (by kernel_rfl) (by kernel_rfl) (by kernel_rfl) (fun w hk => r_len SliceOf24 rfl (h.srS 1 rfl)) (wh_ok 12 (Keep.refl BE _) rfl (want_on rfl (congrArg Value.bool c16)) (by kernel_rfl) (by kernel_rfl) (by kernel_rfl) (fun w hk => r_gtr rfl rfl) (wh_ok 13 (Keep.refl BE _) rfl (want_on rfl (congrArg Value.bool c16)) (by kernel_rfl) (by kernel_rfl) (by kernel_rfl) (fun w hk => r_move (v := (.bool (decide ((0 : Int) < (a.says.length : Int))))) rfl) (c_split (b := decide ((0 : Int) < (a.says.length : Int))) hs (fun c19 hs => ?_) (fun c19 hs => ?_)))))
       ·
        refine wh_ok 14 (Keep.refl BE _) rfl (want_on rfl (congrArg Value.bool c19)) (by kernel_rfl) (by kernel_rfl) (by kernel_rfl) (fun w hk => r_move (v := (.func (.func 115) #[] #[(.pointer (some ⟨b3, 0, none⟩))])) rfl) ?_
        obtain ⟨ws20, ws20e⟩ : ∃ x, x = w := ⟨_, rfl⟩
        have hg21 : Grow ws20 w := ws20e ▸ Keep.refl BE w
        refine wh_at ws20e.symm (wh_eff 15 (by kernel_rfl) rfl (want_on rfl (congrArg Value.bool c19)) (w_call fnOk115 rfl rfl (wandererref_CheckRec_1_83_c _ _ h.lt ((lk a.kind ([(1, [73]), (2, [83, 73]), (3, [80]), (4, [73]), (5, [])] : List (Int × Str))).getD []) b3 (h.blkAt 5 rfl) _ rfl) ?_))
        rintro _ w ⟨k22, rfl⟩
        refine ⟨_, rfl, ?_⟩
        replace h := h.grow k22
        replace hg21 := hg21.trans k22
        refine wl_nil (wh_back hg21 (wh_ok 16 hg21 rfl (want_on rfl (congrArg Value.bool c19)) (by kernel_rfl) (by kernel_rfl) (by kernel_rfl) (fun w hk => r_notb rfl) (wh_ok 17 hg21 rfl (want_on rfl (congrArg Value.bool c16)) (by kernel_rfl) (by kernel_rfl) (by kernel_rfl) (fun w hk => r_pick (b := true) (v := (.bool ((!(wandererref_CheckRec_1_83 ((lk a.kind ([(1, [73]), (2, [83, 73]), (3, [80]), (4, [73]), (5, [])] : List (Int × Str))).getD [])))))) (congrArg Value.bool c19) rfl) (wh_ok 18 hg21 rfl want_none (by kernel_rfl) (by kernel_rfl) (by kernel_rfl) (fun w hk => r_pick (b := false) (v := (.bool ((!(wandererref_CheckRec_1_83 ((lk a.kind ([(1, [73]), (2, [83, 73]), (3, [80]), (4, [73]), (5, [])] : List (Int × Str))).getD [])))))) (congrArg Value.bool c16) rfl) (wh_ok 19 hg21 rfl want_none (by kernel_rfl) (by kernel_rfl) (by kernel_rfl) (fun w hk => r_move (v := (.bool ((!(wandererref_CheckRec_1_83 ((lk a.kind ([(1, [73]), (2, [83, 73]), (3, [80]), (4, [73]), (5, [])] : List (Int × Str))).getD [])))))) rfl) (c_split (b := (!(wandererref_CheckRec_1_83 ((lk a.kind ([(1, [73]), (2, [83, 73]), (3, [80]), (4, [73]), (5, [])] : List (Int × Str))).getD [])))) hs (fun c23 hs => ?_) (fun c23 hs => ?_)))))))
        ·
         refine wh_skip 20 hg21 rfl (want_off (b' := true) rfl (congrArg Value.bool c23) rfl) (by kernel_rfl) (by kernel_rfl) (by kernel_rfl) (wh_skip 21 hg21 rfl (want_off (b' := true) rfl (congrArg Value.bool c23) rfl) (by kernel_rfl) (by kernel_rfl) (by kernel_rfl) (wh_skip 22 hg21 rfl (want_off (b' := true) rfl (congrArg Value.bool c23) rfl) (by kernel_rfl) (by kernel_rfl) (by kernel_rfl) (wh_skip 23 hg21 rfl (want_off (b' := true) rfl (congrArg Value.bool c23) rfl) (by kernel_rfl) (by kernel_rfl) (by kernel_rfl) (wh_skip 24 hg21 rfl (want_off (b' := true) rfl (congrArg Value.bool c23) rfl) (by kernel_rfl) (by kernel_rfl) (by kernel_rfl) (wh_skip 25 hg21 rfl (want_off (b' := true) rfl (congrArg Value.bool c23) rfl) (by kernel_rfl) (by kernel_rfl) (by kernel_rfl) (wh_skip 26 hg21 rfl (want_off (b' := true) rfl (congrArg Value.bool c23) rfl) (by kernel_rfl) (by kernel_rfl) (by kernel_rfl) (wh_ok 27 hg21 rfl want_none (by kernel_rfl) (by kernel_rfl) (by kernel_rfl) (fun w hk => r_pick (b := true) (v := (.bool (true))) (congrArg Value.bool c23) rfl) (wh_ok 28 hg21 rfl want_none (by kernel_rfl) (by kernel_rfl) (by kernel_rfl) (fun w hk => r_move (v := (.bool (true))) rfl) (wh_skip 29 hg21 rfl (want_off (b' := true) rfl rfl rfl) (by kernel_rfl) (by kernel_rfl) (by kernel_rfl) (wh_skip 30 hg21 rfl (want_off (b' := true) rfl rfl rfl) (by kernel_rfl) (by kernel_rfl) (by kernel_rfl) (wh_skip 31 hg21 rfl (want_off (b' := true) rfl rfl rfl) (by kernel_rfl) (by kernel_rfl) (by kernel_rfl) (wh_ok 32 hg21 rfl want_none (by kernel_rfl) (by kernel_rfl) (by kernel_rfl) (fun w hk => r_pick (b := true) (v := (.bool (true))) rfl rfl) (wh_done (by kernel_rfl) (then_loop ?_))))))))))))))
         exact jend true ⟨h.cn _, hs⟩
        ·
         refine wh_ok 20 hg21 rfl (want_on rfl (congrArg Value.bool c23)) (by kernel_rfl) (by kernel_rfl) (by kernel_rfl) (fun w hk => r_fieldAddr Fld61x5 rfl) (wh_base hg21 ?_)
         obtain ⟨ws24, ws24e⟩ : ∃ x, x = w := ⟨_, rfl⟩
         have hg25 : Grow ws24 w := ws24e ▸ Keep.refl _ _
         refine wh_ok 21 (Keep.refl BE _) rfl (want_on rfl (congrArg Value.bool c23)) (by kernel_rfl) (by kernel_rfl) (by kernel_rfl) (fun w hk => have h := h.grow hk; r_ldB h 3 rfl One24 rfl rfl) (wh_ok 22 (Keep.refl BE _) rfl (want_on rfl (congrArg Value.bool c23)) (by kernel_rfl) (by kernel_rfl) (by kernel_rfl) (fun w hk => r_len SliceOf24 rfl (h.srS 2 rfl)) (wh_ok 23 (Keep.refl BE _) rfl (want_on rfl (congrArg Value.bool c23)) (by kernel_rfl) (by kernel_rfl) (by kernel_rfl) (fun w hk => r_gtr rfl rfl) (wh_ok 24 (Keep.refl BE _) rfl (want_on rfl (congrArg Value.bool c23)) (by kernel_rfl) (by kernel_rfl) (by kernel_rfl) (fun w hk => r_move (v := (.func (.func 115) #[] #[(.pointer (some ⟨b3, 0, none⟩))])) rfl) ?_)))
         obtain ⟨ws26, ws26e⟩ : ∃ x, x = w := ⟨_, rfl⟩
         have hg27 : Grow ws26 w := ws26e ▸ Keep.refl BE w
         refine wh_at ws26e.symm (wh_eff 25 (by kernel_rfl) rfl (want_on rfl (congrArg Value.bool c23)) (w_call fnOk115 rfl rfl (wandererref_CheckRec_1_73_c _ _ h.lt ((lk a.kind ([(1, [73]), (2, [83, 73]), (3, [80]), (4, [73]), (5, [])] : List (Int × Str))).getD []) b3 (h.blkAt 5 rfl) _ rfl) ?_))
         rintro _ w ⟨k28, rfl⟩
         refine ⟨_, rfl, ?_⟩
         replace h := h.grow k28
         replace hg27 := hg27.trans k28
         refine wl_nil (wh_back hg27 (wh_ok 26 hg27 rfl (want_on rfl (congrArg Value.bool c23)) (by kernel_rfl) (by kernel_rfl) (by kernel_rfl) (fun w hk => r_neqb Try.underlying4 rfl rfl) (wh_ok 27 hg27 rfl want_none (by kernel_rfl) (by kernel_rfl) (by kernel_rfl) (fun w hk => r_pick (b := false) (v := (.bool ((decide ((0 : Int) < (a.image.length : Int)) != (wandererref_CheckRec_1_73 ((lk a.kind ([(1, [73]), (2, [83, 73]), (3, [80]), (4, [73]), (5, [])] : List (Int × Str))).getD [])))))) (congrArg Value.bool c23) rfl) (wh_ok 28 hg27 rfl want_none (by kernel_rfl) (by kernel_rfl) (by kernel_rfl) (fun w hk => r_move (v := (.bool ((decide ((0 : Int) < (a.image.length : Int)) != (wandererref_CheckRec_1_73 ((lk a.kind ([(1, [73]), (2, [83, 73]), (3, [80]), (4, [73]), (5, [])] : List (Int × Str))).getD [])))))) rfl) (c_split (b := (decide ((0 : Int) < (a.image.length : Int)) != (wandererref_CheckRec_1_73 ((lk a.kind ([(1, [73]), (2, [83, 73]), (3, [80]), (4, [73]), (5, [])] : List (Int × Str))).getD [])))) hs (fun c29 hs => ?_) (fun c29 hs => ?_))))))
         ·
          refine wh_skip 29 hg27 rfl (want_off (b' := true) rfl (congrArg Value.bool c29) rfl) (by kernel_rfl) (by kernel_rfl) (by kernel_rfl) (wh_skip 30 hg27 rfl (want_off (b' := true) rfl (congrArg Value.bool c29) rfl) (by kernel_rfl) (by kernel_rfl) (by kernel_rfl) (wh_skip 31 hg27 rfl (want_off (b' := true) rfl (congrArg Value.bool c29) rfl) (by kernel_rfl) (by kernel_rfl) (by kernel_rfl) (wh_ok 32 hg27 rfl want_none (by kernel_rfl) (by kernel_rfl) (by kernel_rfl) (fun w hk => r_pick (b := true) (v := (.bool (true))) (congrArg Value.bool c29) rfl) (wh_done (by kernel_rfl) (then_loop ?_)))))
          exact jend true ⟨h.cn _, hs⟩
         ·
          refine wh_ok 29 hg27 rfl (want_on rfl (congrArg Value.bool c29)) (by kernel_rfl) (by kernel_rfl) (by kernel_rfl) (fun w hk => r_fieldAddr Fld61x2 rfl) (wh_base hg27 ?_)
          obtain ⟨ws30, ws30e⟩ : ∃ x, x = w := ⟨_, rfl⟩
          have hg31 : Grow ws30 w := ws30e ▸ Keep.refl _ _
          refine wh_ok 30 (Keep.refl BE _) rfl (want_on rfl (congrArg Value.bool c29)) (by kernel_rfl) (by kernel_rfl) (by kernel_rfl) (fun w hk => have h := h.grow hk; r_ldB h 3 rfl One3 rfl rfl) (wh_ok 31 (Keep.refl BE _) rfl (want_on rfl (congrArg Value.bool c29)) (by kernel_rfl) (by kernel_rfl) (by kernel_rfl) (fun w hk => r_eql rfl rfl) (wh_ok 32 (Keep.refl BE _) rfl want_none (by kernel_rfl) (by kernel_rfl) (by kernel_rfl) (fun w hk => r_pick (b := false) (v := (.bool (decide ((a.epoch : Int) = 0)))) (congrArg Value.bool c29) rfl) (wh_done (by kernel_rfl) (then_loop ?_))))
          exact jend (decide ((a.epoch : Int) = 0)) ⟨h.cn _, hs⟩
       ·
        refine wh_skip 14 (Keep.refl BE _) rfl (want_off (b' := false) rfl (congrArg Value.bool c19) rfl) (by kernel_rfl) (by kernel_rfl) (by kernel_rfl) (wh_skip 15 (Keep.refl BE _) rfl (want_off (b' := false) rfl (congrArg Value.bool c19) rfl) (by kernel_rfl) (by kernel_rfl) (by kernel_rfl) (wh_skip 16 (Keep.refl BE _) rfl (want_off (b' := false) rfl (congrArg Value.bool c19) rfl) (by kernel_rfl) (by kernel_rfl) (by kernel_rfl) (wh_ok 17 (Keep.refl BE _) rfl (want_on rfl (congrArg Value.bool c16)) (by kernel_rfl) (by kernel_rfl) (by kernel_rfl) (fun w hk => r_pick (b := false) (v := (.bool (false))) (congrArg Value.bool c19) rfl) (wh_ok 18 (Keep.refl BE _) rfl want_none (by kernel_rfl) (by kernel_rfl) (by kernel_rfl) (fun w hk => r_pick (b := false) (v := (.bool (false))) (congrArg Value.bool c16) rfl) (wh_ok 19 (Keep.refl BE _) rfl want_none (by kernel_rfl) (by kernel_rfl) (by kernel_rfl) (fun w hk => r_move (v := (.bool (false))) rfl) (wh_ok 20 (Keep.refl BE _) rfl (want_on rfl rfl) (by kernel_rfl) (by kernel_rfl) (by kernel_rfl) (fun w hk => r_fieldAddr Fld61x5 rfl) (wh_ok 21 (Keep.refl BE _) rfl (want_on rfl rfl) (by kernel_rfl) (by kernel_rfl) (by kernel_rfl) (fun w hk => have h := h.grow hk; r_ldB h 3 rfl One24 rfl rfl) (wh_ok 22 (Keep.refl BE _) rfl (want_on rfl rfl) (by kernel_rfl) (by kernel_rfl) (by kernel_rfl) (fun w hk => r_len SliceOf24 rfl (h.srS 2 rfl)) (wh_ok 23 (Keep.refl BE _) rfl (want_on rfl rfl) (by kernel_rfl) (by kernel_rfl) (by kernel_rfl) (fun w hk => r_gtr rfl rfl) (wh_ok 24 (Keep.refl BE _) rfl (want_on rfl rfl) (by kernel_rfl) (by kernel_rfl) (by kernel_rfl) (fun w hk => r_move (v := (.func (.func 115) #[] #[(.pointer (some ⟨b3, 0, none⟩))])) rfl) ?_))))))))))
        obtain ⟨ws32, ws32e⟩ : ∃ x, x = w := ⟨_, rfl⟩
        have hg33 : Grow ws32 w := ws32e ▸ Keep.refl BE w
        refine wh_at ws32e.symm (wh_eff 25 (by kernel_rfl) rfl (want_on rfl rfl) (w_call fnOk115 rfl rfl (wandererref_CheckRec_1_73_c _ _ h.lt ((lk a.kind ([(1, [73]), (2, [83, 73]), (3, [80]), (4, [73]), (5, [])] : List (Int × Str))).getD []) b3 (h.blkAt 5 rfl) _ rfl) ?_))
        rintro _ w ⟨k34, rfl⟩
        refine ⟨_, rfl, ?_⟩
        replace h := h.grow k34
        replace hg33 := hg33.trans k34
        refine wl_nil (wh_back hg33 (wh_ok 26 hg33 rfl (want_on rfl rfl) (by kernel_rfl) (by kernel_rfl) (by kernel_rfl) (fun w hk => r_neqb Try.underlying4 rfl rfl) (wh_ok 27 hg33 rfl want_none (by kernel_rfl) (by kernel_rfl) (by kernel_rfl) (fun w hk => r_pick (b := false) (v := (.bool ((decide ((0 : Int) < (a.image.length : Int)) != (wandererref_CheckRec_1_73 ((lk a.kind ([(1, [73]), (2, [83, 73]), (3, [80]), (4, [73]), (5, [])] : List (Int × Str))).getD [])))))) rfl rfl) (wh_ok 28 hg33 rfl want_none (by kernel_rfl) (by kernel_rfl) (by kernel_rfl) (fun w hk => r_move (v := (.bool ((decide ((0 : Int) < (a.image.length : Int)) != (wandererref_CheckRec_1_73 ((lk a.kind ([(1, [73]), (2, [83, 73]), (3, [80]), (4, [73]), (5, [])] : List (Int × Str))).getD [])))))) rfl) (c_split (b := (decide ((0 : Int) < (a.image.length : Int)) != (wandererref_CheckRec_1_73 ((lk a.kind ([(1, [73]), (2, [83, 73]), (3, [80]), (4, [73]), (5, [])] : List (Int × Str))).getD [])))) hs (fun c35 hs => ?_) (fun c35 hs => ?_))))))
        ·
         refine wh_skip 29 hg33 rfl (want_off (b' := true) rfl (congrArg Value.bool c35) rfl) (by kernel_rfl) (by kernel_rfl) (by kernel_rfl) (wh_skip 30 hg33 rfl (want_off (b' := true) rfl (congrArg Value.bool c35) rfl) (by kernel_rfl) (by kernel_rfl) (by kernel_rfl) (wh_skip 31 hg33 rfl (want_off (b' := true) rfl (congrArg Value.bool c35) rfl) (by kernel_rfl) (by kernel_rfl) (by kernel_rfl) (wh_ok 32 hg33 rfl want_none (by kernel_rfl) (by kernel_rfl) (by kernel_rfl) (fun w hk => r_pick (b := true) (v := (.bool (true))) (congrArg Value.bool c35) rfl) (wh_done (by kernel_rfl) (then_loop ?_)))))
         exact jend true ⟨h.cn _, hs⟩
        ·
         refine wh_ok 29 hg33 rfl (want_on rfl (congrArg Value.bool c35)) (by kernel_rfl) (by kernel_rfl) (by kernel_rfl) (fun w hk => r_fieldAddr Fld61x2 rfl) (wh_base hg33 ?_)
         obtain ⟨ws36, ws36e⟩ : ∃ x, x = w := ⟨_, rfl⟩
         have hg37 : Grow ws36 w := ws36e ▸ Keep.refl _ _
         refine wh_ok 30 (Keep.refl BE _) rfl (want_on rfl (congrArg Value.bool c35)) (by kernel_rfl) (by kernel_rfl) (by kernel_rfl) (fun w hk => have h := h.grow hk; r_ldB h 3 rfl One3 rfl rfl) (wh_ok 31 (Keep.refl BE _) rfl (want_on rfl (congrArg Value.bool c35)) (by kernel_rfl) (by kernel_rfl) (by kernel_rfl) (fun w hk => r_eql rfl rfl) (wh_ok 32 (Keep.refl BE _) rfl want_none (by kernel_rfl) (by kernel_rfl) (by kernel_rfl) (fun w hk => r_pick (b := false) (v := (.bool (decide ((a.epoch : Int) = 0)))) (congrArg Value.bool c35) rfl) (wh_done (by kernel_rfl) (then_loop ?_))))
         exact jend (decide ((a.epoch : Int) = 0)) ⟨h.cn _, hs⟩
     ·
      refine wh_skip 4 (Keep.refl BE _) rfl (want_off (b' := false) rfl (congrArg Value.bool c12) rfl) (by kernel_rfl) (by kernel_rfl) (by kernel_rfl) (wh_skip 5 (Keep.refl BE _) rfl (want_off (b' := false) rfl (congrArg Value.bool c12) rfl) (by kernel_rfl) (by kernel_rfl) (by kernel_rfl) (wh_skip 6 (Keep.refl BE _) rfl (want_off (b' := false) rfl (congrArg Value.bool c12) rfl) (by kernel_rfl) (by kernel_rfl) (by kernel_rfl) (wh_ok 7 (Keep.refl BE _) rfl want_none (by kernel_rfl) (by kernel_rfl) (by kernel_rfl) (fun w hk => r_pick (b := false) (v := (.bool (false))) (congrArg Value.bool c12) rfl) (wh_ok 8 (Keep.refl BE _) rfl want_none (by kernel_rfl) (by kernel_rfl) (by kernel_rfl) (fun w hk => r_move (v := (.bool (false))) rfl) (wh_ok 9 (Keep.refl BE _) rfl (want_on rfl rfl) (by kernel_rfl) (by kernel_rfl) (by kernel_rfl) (fun w hk => r_fieldAddr Fld61x4 rfl) (wh_ok 10 (Keep.refl BE _) rfl (want_on rfl rfl) (by kernel_rfl) (by kernel_rfl) (by kernel_rfl) (fun w hk => have h := h.grow hk; r_ldB h 3 rfl One24 rfl rfl) (wh_ok 11 (Keep.refl BE _) rfl (want_on rfl rfl) (by kernel_rfl) (by kernel_rfl) (by kernel_rfl) (fun w hk => r_len SliceOf24 rfl (h.srS 1 rfl)) (wh_ok 12 (Keep.refl BE _) rfl (want_on rfl rfl) (by kernel_rfl) (by kernel_rfl) (by kernel_rfl) (fun w hk => r_gtr rfl rfl) (wh_ok 13 (Keep.refl BE _) rfl (want_on rfl rfl) (by kernel_rfl) (by kernel_rfl) (by kernel_rfl) (fun w hk => r_move (v := (.bool (decide ((0 : Int) < (a.says.length : Int))))) rfl) (c_split (b := decide ((0 : Int) < (a.says.length : Int))) hs (fun c38 hs => ?_) (fun c38 hs => ?_)))))))))))
      ·
       refine wh_ok 14 (Keep.refl BE _) rfl (want_on rfl (congrArg Value.bool c38)) (by kernel_rfl) (by kernel_rfl) (by kernel_rfl) (fun w hk => r_move (v := (.func (.func 115) #[] #[(.pointer (some ⟨b3, 0, none⟩))])) rfl) ?_
       obtain ⟨ws39, ws39e⟩ : ∃ x, x = w := ⟨_, rfl⟩
       have hg40 : Grow ws39 w := ws39e ▸ Keep.refl BE w
       refine wh_at ws39e.symm (wh_eff 15 (by kernel_rfl) rfl (want_on rfl (congrArg Value.bool c38)) (w_call fnOk115 rfl rfl (wandererref_CheckRec_1_83_c _ _ h.lt ((lk a.kind ([(1, [73]), (2, [83, 73]), (3, [80]), (4, [73]), (5, [])] : List (Int × Str))).getD []) b3 (h.blkAt 5 rfl) _ rfl) ?_))
       rintro _ w ⟨k41, rfl⟩
       refine ⟨_, rfl, ?_⟩
       replace h := h.grow k41
       replace hg40 := hg40.trans k41
       refine wl_nil (wh_back hg40 (wh_ok 16 hg40 rfl (want_on rfl (congrArg Value.bool c38)) (by kernel_rfl) (by kernel_rfl) (by kernel_rfl) (fun w hk => r_notb rfl) (wh_ok 17 hg40 rfl (want_on rfl rfl) (by kernel_rfl) (by kernel_rfl) (by kernel_rfl) (fun w hk => r_pick (b := true) (v := (.bool ((!(wandererref_CheckRec_1_83 ((lk a.kind ([(1, [73]), (2, [83, 73]), (3, [80]), (4, [73]), (5, [])] : List (Int × Str))).getD [])))))) (congrArg Value.bool c38) rfl) (wh_ok 18 hg40 rfl want_none (by kernel_rfl) (by kernel_rfl) (by kernel_rfl) (fun w hk => r_pick (b := false) (v := (.bool ((!(wandererref_CheckRec_1_83 ((lk a.kind ([(1, [73]), (2, [83, 73]), (3, [80]), (4, [73]), (5, [])] : List (Int × Str))).getD [])))))) rfl rfl) (wh_ok 19 hg40 rfl want_none (by kernel_rfl) (by kernel_rfl) (by kernel_rfl) (fun w hk => r_move (v := (.bool ((!(wandererref_CheckRec_1_83 ((lk a.kind ([(1, [73]), (2, [83, 73]), (3, [80]), (4, [73]), (5, [])] : List (Int × Str))).getD [])))))) rfl) (c_split (b := (!(wandererref_CheckRec_1_83 ((lk a.kind ([(1, [73]), (2, [83, 73]), (3, [80]), (4, [73]), (5, [])] : List (Int × Str))).getD [])))) hs (fun c42 hs => ?_) (fun c42 hs => ?_)))))))
       ·
        refine wh_skip 20 hg40 rfl (want_off (b' := true) rfl (congrArg Value.bool c42) rfl) (by kernel_rfl) (by kernel_rfl) (by kernel_rfl) (wh_skip 21 hg40 rfl (want_off (b' := true) rfl (congrArg Value.bool c42) rfl) (by kernel_rfl) (by kernel_rfl) (by kernel_rfl) (wh_skip 22 hg40 rfl (want_off (b' := true) rfl (congrArg Value.bool c42) rfl) (by kernel_rfl) (by kernel_rfl) (by kernel_rfl) (wh_skip 23 hg40 rfl (want_off (b' := true) rfl (congrArg Value.bool c42) rfl) (by kernel_rfl) (by kernel_rfl) (by kernel_rfl) (wh_skip 24 hg40 rfl (want_off (b' := true) rfl (congrArg Value.bool c42) rfl) (by kernel_rfl) (by kernel_rfl) (by kernel_rfl) (wh_skip 25 hg40 rfl (want_off (b' := true) rfl (congrArg Value.bool c42) rfl) (by kernel_rfl) (by kernel_rfl) (by kernel_rfl) (wh_skip 26 hg40 rfl (want_off (b' := true) rfl (congrArg Value.bool c42) rfl) (by kernel_rfl) (by kernel_rfl) (by kernel_rfl) (wh_ok 27 hg40 rfl want_none (by kernel_rfl) (by kernel_rfl) (by kernel_rfl) (fun w hk => r_pick (b := true) (v := (.bool (true))) (congrArg Value.bool c42) rfl) (wh_ok 28 hg40 rfl want_none (by kernel_rfl) (by kernel_rfl) (by kernel_rfl) (fun w hk => r_move (v := (.bool (true))) rfl) (wh_skip 29 hg40 rfl (want_off (b' := true) rfl rfl rfl) (by kernel_rfl) (by kernel_rfl) (by kernel_rfl) (wh_skip 30 hg40 rfl (want_off (b' := true) rfl rfl rfl) (by kernel_rfl) (by kernel_rfl) (by kernel_rfl) (wh_skip 31 hg40 rfl (want_off (b' := true) rfl rfl rfl) (by kernel_rfl) (by kernel_rfl) (by kernel_rfl) (wh_ok 32 hg40 rfl want_none (by kernel_rfl) (by kernel_rfl) (by kernel_rfl) (fun w hk => r_pick (b := true) (v := (.bool (true))) rfl rfl) (wh_done (by kernel_rfl) (then_loop ?_))))))))))))))
        exact jend true ⟨h.cn _, hs⟩
       ·
        refine wh_ok 20 hg40 rfl (want_on rfl (congrArg Value.bool c42)) (by kernel_rfl) (by kernel_rfl) (by kernel_rfl) (fun w hk => r_fieldAddr Fld61x5 rfl) (wh_base hg40 ?_)
        obtain ⟨ws43, ws43e⟩ : ∃ x, x = w := ⟨_, rfl⟩
        have hg44 : Grow ws43 w := ws43e ▸ Keep.refl _ _
        refine wh_ok 21 (Keep.refl BE _) rfl (want_on rfl (congrArg Value.bool c42)) (by kernel_rfl) (by kernel_rfl) (by kernel_rfl) (fun w hk => have h := h.grow hk; r_ldB h 3 rfl One24 rfl rfl) (wh_ok 22 (Keep.refl BE _) rfl (want_on rfl (congrArg Value.bool c42)) (by kernel_rfl) (by kernel_rfl) (by kernel_rfl) (fun w hk => r_len SliceOf24 rfl (h.srS 2 rfl)) (wh_ok 23 (Keep.refl BE _) rfl (want_on rfl (congrArg Value.bool c42)) (by kernel_rfl) (by kernel_rfl) (by kernel_rfl) (fun w hk => r_gtr rfl rfl) (wh_ok 24 (Keep.refl BE _) rfl (want_on rfl (congrArg Value.bool c42)) (by kernel_rfl) (by kernel_rfl) (by kernel_rfl) (fun w hk => r_move (v := (.func (.func 115) #[] #[(.pointer (some ⟨b3, 0, none⟩))])) rfl) ?_)))
        obtain ⟨ws45, ws45e⟩ : ∃ x, x = w := ⟨_, rfl⟩
        have hg46 : Grow ws45 w := ws45e ▸ Keep.refl BE w
        refine wh_at ws45e.symm (wh_eff 25 (by kernel_rfl) rfl (want_on rfl (congrArg Value.bool c42)) (w_call fnOk115 rfl rfl (wandererref_CheckRec_1_73_c _ _ h.lt ((lk a.kind ([(1, [73]), (2, [83, 73]), (3, [80]), (4, [73]), (5, [])] : List (Int × Str))).getD []) b3 (h.blkAt 5 rfl) _ rfl) ?_))
        rintro _ w ⟨k47, rfl⟩
        refine ⟨_, rfl, ?_⟩
        replace h := h.grow k47
        replace hg46 := hg46.trans k47
        refine wl_nil (wh_back hg46 (wh_ok 26 hg46 rfl (want_on rfl (congrArg Value.bool c42)) (by kernel_rfl) (by kernel_rfl) (by kernel_rfl) (fun w hk => r_neqb Try.underlying4 rfl rfl) (wh_ok 27 hg46 rfl want_none (by kernel_rfl) (by kernel_rfl) (by kernel_rfl) (fun w hk => r_pick (b := false) (v := (.bool ((decide ((0 : Int) < (a.image.length : Int)) != (wandererref_CheckRec_1_73 ((lk a.kind ([(1, [73]), (2, [83, 73]), (3, [80]), (4, [73]), (5, [])] : List (Int × Str))).getD [])))))) (congrArg Value.bool c42) rfl) (wh_ok 28 hg46 rfl want_none (by kernel_rfl) (by kernel_rfl) (by kernel_rfl) (fun w hk => r_move (v := (.bool ((decide ((0 : Int) < (a.image.length : Int)) != (wandererref_CheckRec_1_73 ((lk a.kind ([(1, [73]), (2, [83, 73]), (3, [80]), (4, [73]), (5, [])] : List (Int × Str))).getD [])))))) rfl) (c_split (b := (decide ((0 : Int) < (a.image.length : Int)) != (wandererref_CheckRec_1_73 ((lk a.kind ([(1, [73]), (2, [83, 73]), (3, [80]), (4, [73]), (5, [])] : List (Int × Str))).getD [])))) hs (fun c48 hs => ?_) (fun c48 hs => ?_))))))
        ·
         refine wh_skip 29 hg46 rfl (want_off (b' := true) rfl (congrArg Value.bool c48) rfl) (by kernel_rfl) (by kernel_rfl) (by kernel_rfl) (wh_skip 30 hg46 rfl (want_off (b' := true) rfl (congrArg Value.bool c48) rfl) (by kernel_rfl) (by kernel_rfl) (by kernel_rfl) (wh_skip 31 hg46 rfl (want_off (b' := true) rfl (congrArg Value.bool c48) rfl) (by kernel_rfl) (by kernel_rfl) (by kernel_rfl) (wh_ok 32 hg46 rfl want_none (by kernel_rfl) (by kernel_rfl) (by kernel_rfl) (fun w hk => r_pick (b := true) (v := (.bool (true))) (congrArg Value.bool c48) rfl) (wh_done (by kernel_rfl) (then_loop ?_)))))
         exact jend true ⟨h.cn _, hs⟩
        ·
         refine wh_ok 29 hg46 rfl (want_on rfl (congrArg Value.bool c48)) (by kernel_rfl) (by kernel_rfl) (by kernel_rfl) (fun w hk => r_fieldAddr Fld61x2 rfl) (wh_base hg46 ?_)
         obtain ⟨ws49, ws49e⟩ : ∃ x, x = w := ⟨_, rfl⟩
         have hg50 : Grow ws49 w := ws49e ▸ Keep.refl _ _
         refine wh_ok 30 (Keep.refl BE _) rfl (want_on rfl (congrArg Value.bool c48)) (by kernel_rfl) (by kernel_rfl) (by kernel_rfl) (fun w hk => have h := h.grow hk; r_ldB h 3 rfl One3 rfl rfl) (wh_ok 31 (Keep.refl BE _) rfl (want_on rfl (congrArg Value.bool c48)) (by kernel_rfl) (by kernel_rfl) (by kernel_rfl) (fun w hk => r_eql rfl rfl) (wh_ok 32 (Keep.refl BE _) rfl want_none (by kernel_rfl) (by kernel_rfl) (by kernel_rfl) (fun w hk => r_pick (b := false) (v := (.bool (decide ((a.epoch : Int) = 0)))) (congrArg Value.bool c48) rfl) (wh_done (by kernel_rfl) (then_loop ?_))))
         exact jend (decide ((a.epoch : Int) = 0)) ⟨h.cn _, hs⟩
      ·
       refine wh_skip 14 (Keep.refl BE _) rfl (want_off (b' := false) rfl (congrArg Value.bool c38) rfl) (by kernel_rfl) (by kernel_rfl) (by kernel_rfl) (wh_skip 15 (Keep.refl BE _) rfl (want_off (b' := false) rfl (congrArg Value.bool c38) rfl) (by kernel_rfl) (by kernel_rfl) (by kernel_rfl) (wh_skip 16 (Keep.refl BE _) rfl (want_off (b' := false) rfl (congrArg Value.bool c38) rfl) (by kernel_rfl) (by kernel_rfl) (by kernel_rfl) (wh_ok 17 (Keep.refl BE _) rfl (want_on rfl rfl) (by kernel_rfl) (by kernel_rfl) (by kernel_rfl) (fun w hk => r_pick (b := false) (v := (.bool (false))) (congrArg Value.bool c38) rfl) (wh_ok 18 (Keep.refl BE _) rfl want_none (by kernel_rfl) (by kernel_rfl) (by kernel_rfl) (fun w hk => r_pick (b := false) (v := (.bool (false))) rfl rfl) (wh_ok 19 (Keep.refl BE _) rfl want_none (by kernel_rfl) (by kernel_rfl) (by kernel_rfl) (fun w hk => r_move (v := (.bool (false))) rfl) (wh_ok 20 (Keep.refl BE _) rfl (want_on rfl rfl) (by kernel_rfl) (by kernel_rfl) (by kernel_rfl) (fun w hk => r_fieldAddr Fld61x5 rfl) (wh_ok 21 (Keep.refl BE _) rfl (want_on rfl rfl) (by kernel_rfl) (by kernel_rfl) (by kernel_rfl) (fun w hk => have h := h.grow hk; r_ldB h 3 rfl One24 rfl rfl) (wh_ok 22 (Keep.refl BE _) rfl (want_on rfl rfl) (by kernel_rfl) (by kernel_rfl) (by kernel_rfl) (fun w hk => r_len SliceOf24 rfl (h.srS 2 rfl)) (wh_ok 23 (Keep.refl BE _) rfl (want_on rfl rfl) (by kernel_rfl) (by kernel_rfl) (by kernel_rfl) (fun w hk => r_gtr rfl rfl) (wh_ok 24 (Keep.refl BE _) rfl (want_on rfl rfl) (by kernel_rfl) (by kernel_rfl) (by kernel_rfl) (fun w hk => r_move (v := (.func (.func 115) #[] #[(.pointer (some ⟨b3, 0, none⟩))])) rfl) ?_))))))))))
       obtain ⟨ws51, ws51e⟩ : ∃ x, x = w := ⟨_, rfl⟩
       have hg52 : Grow ws51 w := ws51e ▸ Keep.refl BE w
       refine wh_at ws51e.symm (wh_eff 25 (by kernel_rfl) rfl (want_on rfl rfl) (w_call fnOk115 rfl rfl (wandererref_CheckRec_1_73_c _ _ h.lt ((lk a.kind ([(1, [73]), (2, [83, 73]), (3, [80]), (4, [73]), (5, [])] : List (Int × Str))).getD []) b3 (h.blkAt 5 rfl) _ rfl) ?_))
       rintro _ w ⟨k53, rfl⟩
       refine ⟨_, rfl, ?_⟩
       replace h := h.grow k53
       replace hg52 := hg52.trans k53
       refine wl_nil (wh_back hg52 (wh_ok 26 hg52 rfl (want_on rfl rfl) (by kernel_rfl) (by kernel_rfl) (by kernel_rfl) (fun w hk => r_neqb Try.underlying4 rfl rfl) (wh_ok 27 hg52 rfl want_none (by kernel_rfl) (by kernel_rfl) (by kernel_rfl) (fun w hk => r_pick (b := false) (v := (.bool ((decide ((0 : Int) < (a.image.length : Int)) != (wandererref_CheckRec_1_73 ((lk a.kind ([(1, [73]), (2, [83, 73]), (3, [80]), (4, [73]), (5, [])] : List (Int × Str))).getD [])))))) rfl rfl) (wh_ok 28 hg52 rfl want_none (by kernel_rfl) (by kernel_rfl) (by kernel_rfl) (fun w hk => r_move (v := (.bool ((decide ((0 : Int) < (a.image.length : Int)) != (wandererref_CheckRec_1_73 ((lk a.kind ([(1, [73]), (2, [83, 73]), (3, [80]), (4, [73]), (5, [])] : List (Int × Str))).getD [])))))) rfl) (c_split (b := (decide ((0 : Int) < (a.image.length : Int)) != (wandererref_CheckRec_1_73 ((lk a.kind ([(1, [73]), (2, [83, 73]), (3, [80]), (4, [73]), (5, [])] : List (Int × Str))).getD [])))) hs (fun c54 hs => ?_) (fun c54 hs => ?_))))))
       ·
        refine wh_skip 29 hg52 rfl (want_off (b' := true) rfl (congrArg Value.bool c54) rfl) (by kernel_rfl) (by kernel_rfl) (by kernel_rfl) (wh_skip 30 hg52 rfl (want_off (b' := true) rfl (congrArg Value.bool c54) rfl) (by kernel_rfl) (by kernel_rfl) (by kernel_rfl) (wh_skip 31 hg52 rfl (want_off (b' := true) rfl (congrArg Value.bool c54) rfl) (by kernel_rfl) (by kernel_rfl) (by kernel_rfl) (wh_ok 32 hg52 rfl want_none (by kernel_rfl) (by kernel_rfl) (by kernel_rfl) (fun w hk => r_pick (b := true) (v := (.bool (true))) (congrArg Value.bool c54) rfl) (wh_done (by kernel_rfl) (then_loop ?_)))))
        exact jend true ⟨h.cn _, hs⟩
       ·
        refine wh_ok 29 hg52 rfl (want_on rfl (congrArg Value.bool c54)) (by kernel_rfl) (by kernel_rfl) (by kernel_rfl) (fun w hk => r_fieldAddr Fld61x2 rfl) (wh_base hg52 ?_)
        obtain ⟨ws55, ws55e⟩ : ∃ x, x = w := ⟨_, rfl⟩
        have hg56 : Grow ws55 w := ws55e ▸ Keep.refl _ _
        refine wh_ok 30 (Keep.refl BE _) rfl (want_on rfl (congrArg Value.bool c54)) (by kernel_rfl) (by kernel_rfl) (by kernel_rfl) (fun w hk => have h := h.grow hk; r_ldB h 3 rfl One3 rfl rfl) (wh_ok 31 (Keep.refl BE _) rfl (want_on rfl (congrArg Value.bool c54)) (by kernel_rfl) (by kernel_rfl) (by kernel_rfl) (fun w hk => r_eql rfl rfl) (wh_ok 32 (Keep.refl BE _) rfl want_none (by kernel_rfl) (by kernel_rfl) (by kernel_rfl) (fun w hk => r_pick (b := false) (v := (.bool (decide ((a.epoch : Int) = 0)))) (congrArg Value.bool c54) rfl) (wh_done (by kernel_rfl) (then_loop ?_))))
        exact jend (decide ((a.epoch : Int) = 0)) ⟨h.cn _, hs⟩
instance : Inhabited Co := ⟨⟨0, 0, [], 0⟩⟩
def cf102 (x y : Co) : Int := RowKit.wrap64 (x.id_ - y.id_)
def lt102 (x y : Co) : Bool := decide (cf102 x y < 0)
def enc102 (x : Co × One1) : List Value := [.int .i64 x.1.id_, .int .i64 x.1.epoch, x.2.v, .int .i64 x.1.offered]
set_option maxHeartbeats 1000000 in
theorem clo102 (x y : Co × One1) (W : World) : Calls Try.prog 102 #[.agg #[.int .i64 x.1.id_, .int .i64 x.1.epoch, x.2.v, .int .i64 x.1.offered], .agg #[.int .i64 y.1.id_, .int .i64 y.1.epoch, y.2.v, .int .i64 y.1.offered]] W fun e w' => e = .returned (.int .i64 (cf102 x.1 y.1)) ∧ ∃ q os', w' = Sort.grow (W.drewN q) os' := by
  unfold cf102
  go_enter Try.func102, Try.ntmps102
  go_wp2
  go_ret
  exact ⟨rfl, 0, _, by rw [Sort.alloc_eq_grow, Sort.alloc_eq_grow, Sort.grow_grow]; rfl⟩
theorem sortf101_c (w0 : World) (M : BS) (va : Value) (a : List Co) (ha : OwnSl rCo 66 w0 M va a) (hl : 0 < a.length) (h12 : a.length ≤ 12) :
    Calls Try.prog 101 #[va, .func (.func 102) #[] #[]] w0 (fun e w' => e = .returned (.tuple #[]) ∧ OwnSl rCo 66 w' M va (sortF lt102 a) ∧ Keep (ob va) w0 w') := by
  obtain ⟨gg, cap, cur, d, rfl, hs, hm, hh, hraw, hcap, hrd⟩ := own_holds (enc := enc102) (f := fun x => x.1) (fun w A cs x h => by obtain ⟨v, rfl, h0⟩ := rCo_open h; exact ⟨(x, ⟨v, h0.one⟩), rfl, rfl⟩) ha hl
  have eg : ∀ args w, (callFunc 102 args).run Try.prog w = .ok (.enter 102 args) w := enters_of Try.func102 (by kernel_rfl) rfl
  have hcon := AnyQ.slices_SortFunc_small Try.sortCo 4 Try.isAgg66 Try.sizeOf66 enc102 (fun _ => rfl) (fun x v hv => by obtain ⟨x, ⟨u, hu⟩⟩ := x; simp only [enc102, List.mem_cons, List.not_mem_nil, or_false] at hv; rcases hv with rfl | rfl | rfl | rfl <;> first | rfl | exact hu) (fun x y => cf102 x.1 y.1) 102 #[] gg 0 cap d w0 eg (fun _ _ _ _ x y => clo102 x y _) hh (lt_of_blk hraw.blk) (by omega) (fun n W hn => (Try.bits_Len n W (by omega) (by omega)).mono fun _ _ ⟨he, hw⟩ => ⟨⟨_, he⟩, hw⟩)
  change Calls Try.prog 101 _ _ _ at hcon
  rw [hs] at hcon
  refine hcon.mono ?_
  rintro e w' ⟨rfl, n, os, rfl⟩
  have h5 := sort_own (lt := lt102) (lt' := ltOf fun x y => cf102 x.1 y.1) (l := a) (f := fun (x : Co × One1) => x.1) (E := 66) (A := M) (n := n) (os := os) rfl rfl hraw (fun _ => rfl) hs hcap hh hm hrd
  rw [hs] at h5
  exact ⟨rfl, h5.1, h5.2.weaken (fun x hx _ => by simpa [ob] using hx)⟩
def wandererref_Nexted_j8 (nx26 : (Option Co × List Co) → Option (List Co × Int)) (x30 : Option Co) (x32 : List Co) : Option (List Co × Int) :=
  nx26 (x30, x32)
def wandererref_Nexted_j10 (x21 : List Co) (y46 : Int) (y47 : Int) (y49 : List Int) (y50 : Int) : Option (List Co × Int) :=
  grd (Room 48 x21 [(⟨y46, y47, y49, y50⟩ : Co)]) (grd (0 < (x21 ++ [(⟨y46, y47, y49, y50⟩ : Co)]).length ∧ (x21 ++ [(⟨y46, y47, y49, y50⟩ : Co)]).length ≤ 12) (some ((sortF lt102 (x21 ++ [(⟨y46, y47, y49, y50⟩ : Co)])), 0)))
def wandererref_Nexted_j11 (x19 : Option Co) (b : Rec) (x21 : List Co) (x57 : Bool) : Option (List Co × Int) :=
  bif x57 then bif x19.isSome then some ([], 6) else bif (decide ((b.epoch : Int) = 1) != decide ((b.kind : Int) = 1)) then some ([], 7) else wandererref_Nexted_j10 x21 b.co b.epoch b.image (-1) else bif x19.isNone then some ([], 5) else x19.bind fun x62 => bif (decide ((b.epoch : Int) ≠ x62.epoch) || (decide ((x62.offered : Int) ≠ -1) != decide ((b.kind : Int) = 5))) then some ([], 7) else bif decide ((b.kind : Int) = 5) then some (x21, 0) else bif decide ((b.kind : Int) = 2) then wandererref_Nexted_j10 x21 x62.id_ x62.epoch b.image x62.offered else bif decide ((x62.epoch : Int) = 100) then some ([], 2) else wandererref_Nexted_j10 x21 x62.id_ x62.epoch x62.image b.place
def wandererref_Nexted_b12 (b : Rec) (x24 : Co) (s : Option Co × List Co) (nx26 : Option Co × List Co → Option (List Co × Int)) : Option (List Co × Int) :=
  match s with | (x19, x21) => bif decide ((x24.id_ : Int) = b.co) then wandererref_Nexted_j8 nx26 (some x24) x21 else grd (Room 48 x21 [x24]) (wandererref_Nexted_j8 nx26 x19 (x21 ++ [x24]))
def wandererref_Nexted_k13 (b : Rec) (s : Option Co × List Co) : Option (List Co × Int) :=
  match s with | (x19, x21) => bif decide ((b.kind : Int) = 1) then wandererref_Nexted_j11 x19 b x21 (decide ((b.kind : Int) = 1)) else wandererref_Nexted_j11 x19 b x21 (decide ((b.kind : Int) = 4))
def wandererref_Nexted (a : List Co) (b : Rec) : Option (List Co × Int) :=
  bif decide (((wandererref_CheckCos a) : Int) ≠ 0) then some ([], (wandererref_CheckCos a)) else bif decide (((wandererref_CheckRec b) : Int) ≠ 0) then some ([], (wandererref_CheckRec b)) else each (wandererref_Nexted_b12 b) (wandererref_Nexted_k13 b) a (none, [])
theorem wandererref_Nexted_c (w0 : World) (M : BS) (hM : ∀ b, M b → b < w0.heap.size) (va : Value) (a : List Co) (ha : Rd2 rCo w0 BE M va a) (b : Rec) (vb4 vb5 : Value) (hb4 : Rd2 rInt w0 BE M vb4 b.says) (hb5 : RdSl rInt w0 M vb5 b.image) (r : List Co × Int) (hs : wandererref_Nexted a b = some r) :
    Calls Try.prog 54 #[va, (.agg #[(.int .i64 (b.kind)), (.int .i64 (b.co)), (.int .i64 (b.epoch)), (.int .i64 (b.place)), vb4, vb5])] w0 (fun e w' => Grow w0 w' ∧ ∃ u0, e = .returned (.tuple #[u0, .int .i64 r.2]) ∧ OwnSl rCo 66 w' M u0 r.1 ∧ (∀ b, ob u0 b → w0.heap.size ≤ b)) := by
 refine calls_start (args := [va, (.agg #[(.int .i64 (b.kind)), (.int .i64 (b.co)), (.int .i64 (b.epoch)), (.int .i64 (b.place)), vb4, vb5])]) Try.func54 rfl Try.ntmps54 (Nat.le_of_ble_eq_true rfl) ?_
 have h := SH.init hM
 replace h := h.argSr 1 ha none_own
 replace h := h.argSr 2 hb4 (hupd_own_sr none_own)
 replace h := h.argRd 3 hb5 (hupd_own_sr (hupd_own_sr none_own))
 have hl_a := ha.len_le
 refine wc_seq (wc_region (w_box (cs := [(.int .i64 (b.kind)), (.int .i64 (b.co)), (.int .i64 (b.epoch)), (.int .i64 (b.place)), vb4, vb5]) h 4 rfl rfl fun w b1 h => wl_ok (r_assign (v := (.slice none 0 0)) rfl) (wl_ok (r_assign (v := (.int .i64 (0))) rfl) (wl_nil (then_normal (wc_seq (wc_seq (wc_region (wl_ok (r_move (v := va) rfl) (w_call fnOk55 rfl rfl (wandererref_CheckCos_c _ _ h.lt va a (h.srS 1 rfl) _ rfl) ?_))))))))))
 rintro _ w ⟨k2, rfl⟩
 refine ⟨_, rfl, ?_⟩
 replace h := h.grow k2
 refine wl_ok (r_assign (v := (.int .i64 ((wandererref_CheckCos a)))) rfl) (wl_nil (then_normal (wc_seq (wc_region (wl_ok (r_move (v := (.int .i64 ((wandererref_CheckCos a)))) rfl) (wl_ok (r_neq rfl rfl) (wl_nil (then_normal (wc_ifb hs rfl (fun c3 hs => ?_) (fun c3 hs => ?_))))))))))
 ·
  refine wc_seq (wc_region (wl_ok (r_move (v := (.int .i64 ((wandererref_CheckCos a)))) rfl) (wl_ok (r_assign (v := (.slice none 0 0)) rfl) (wl_ok (r_assign (v := (.int .i64 ((wandererref_CheckCos a)))) rfl) (wl_nil (then_normal (wc_ret (then_ret (fin2 (v1 := (.slice none 0 0)) (v2 := (.int .i64 ((wandererref_CheckCos a)))) Try.results54 rfl rfl ?_)))))))))
  obtain rfl := Option.some.inj hs
  exact ⟨h.grown, _, rfl, OwnSl.nil, fresh_nil⟩
 ·
  refine wc_skip (then_normal (wc_seq (wc_seq (wc_region (wl_ok (r_ldBN (vs := [(.int .i64 (b.kind)), (.int .i64 (b.co)), (.int .i64 (b.epoch)), (.int .i64 (b.place)), vb4, vb5]) h 4 rfl Many61 rfl rfl rfl) (w_call fnOk100 rfl rfl (wandererref_CheckRec_c _ _ h.lt b vb4 vb5 (h.srS 2 rfl) (h.rdS 3 rfl) _ rfl) ?_))))))
  rintro _ w ⟨k4, rfl⟩
  refine ⟨_, rfl, ?_⟩
  replace h := h.grow k4
  refine wl_ok (r_assign (v := (.int .i64 ((wandererref_CheckRec b)))) rfl) (wl_nil (then_normal (wc_seq (wc_region (wl_ok (r_move (v := (.int .i64 ((wandererref_CheckRec b)))) rfl) (wl_ok (r_neq rfl rfl) (wl_nil (then_normal (wc_ifb hs rfl (fun c5 hs => ?_) (fun c5 hs => ?_))))))))))
  ·
   refine wc_seq (wc_region (wl_ok (r_move (v := (.int .i64 ((wandererref_CheckRec b)))) rfl) (wl_ok (r_assign (v := (.slice none 0 0)) rfl) (wl_ok (r_assign (v := (.int .i64 ((wandererref_CheckRec b)))) rfl) (wl_nil (then_normal (wc_ret (then_ret (fin2 (v1 := (.slice none 0 0)) (v2 := (.int .i64 ((wandererref_CheckRec b)))) Try.results54 rfl rfl ?_)))))))))
   obtain rfl := Option.some.inj hs
   exact ⟨h.grown, _, rfl, OwnSl.nil, fresh_nil⟩
  ·
   refine wc_skip (then_normal (wc_seq (wc_region (wl_ok (r_assign (v := (.pointer none)) rfl) (wl_nil (then_normal (wc_seq (wc_region (wl_ok (r_assign (v := (.slice none 0 0)) rfl) (wl_nil (then_normal (wc_seq (wc_seq (wc_region (wl_ok (r_move (v := va) rfl) (wl_ok (r_len SliceOf59 rfl (h.srS 1 rfl)) (wl_ok (r_move (v := (.int .i64 (0))) rfl) (wl_nil (then_normal (wc_block ?_))))))))))))))))))))
   replace h := h.nilRp (R := rCo) 11
   replace h := h.nilO (R := rCo) (E := 66) 12
   refine wc_lp (σ := Nat × Int × Value × Option Co × Value × List Co) (inl [8, 9, 11, 25, 26, 27, 28, 29, 30, 31, 32, 33, 34, 35, 36, 37, 38]) (fun ⟨k22, i23, v18, x19, v20, x21⟩ => [(8, v18), (9, v20), (25, (.int .i64 (i23)))]) (fun ⟨k22, i23, v18, x19, v20, x21⟩ w => SH w0 M BE w (hset [(1, .sr rCo va a), (2, .sr rInt vb4 b.says), (3, .rd rInt vb5 b.image), (4, .blk b1 [(.int .i64 (b.kind)), (.int .i64 (b.co)), (.int .i64 (b.epoch)), (.int .i64 (b.place)), vb4, vb5]), (11, .rp (rPtr rCo) v18 x19), (12, .own rCo 66 v20 x21)]) ∧ i23 = (k22 : Int) ∧ each (wandererref_Nexted_b12 b) (wandererref_Nexted_k13 b) (a.drop k22) (x19, x21) = some r) (fun ⟨k22, i23, v18, x19, v20, x21⟩ => a.length - k22) ⟨0, 0, (.pointer none), none, (.slice none 0 0), []⟩ ⟨rfl, rfl, rfl, trivial⟩ ?_ ?_
   ·
    exact ⟨h.cn _, rfl, hs⟩
   ·
    rintro ⟨k22, i23, v18, x19, v20, x21⟩ w junk ⟨h, hik, hs⟩
    refine wc_seq (wc_region ?_)
    refine wl_ok (r_lss rfl rfl) (wl_nil (then_normal ?_))
    refine wc_seq (wc_if rfl (fun e27 => ?_) (fun e27 => ?_))
    ·
     refine wc_skip (then_normal ?_)
     obtain ⟨x24, e28a, e28b⟩ := drop_lt (hik ▸ e27)
     rw [e28b, each_cons] at hs
     generalize hnx26 : each (wandererref_Nexted_b12 b) (wandererref_Nexted_k13 b) (a.drop (k22 + 1)) = nx26 at hs
     have e28r := nat_rng ((h.srS 1 rfl)).len_le hik e27
     refine wc_join (σ := Value × Option Co × Value × List Co) (inl [8, 9, 11, 27, 28, 29, 30, 31, 32, 33, 34, 35, 36, 37]) (fun ⟨v29, x30, v31, x32⟩ => [(8, v29), (9, v31)]) (fun ⟨v29, x30, v31, x32⟩ w => SH w0 M BE w (hset [(1, .sr rCo va a), (2, .sr rInt vb4 b.says), (3, .rd rInt vb5 b.image), (4, .blk b1 [(.int .i64 (b.kind)), (.int .i64 (b.co)), (.int .i64 (b.epoch)), (.int .i64 (b.place)), vb4, vb5]), (12, .own rCo 66 v31 x32), (13, .rp (rPtr rCo) v29 x30)]) ∧ wandererref_Nexted_j8 nx26 x30 x32 = some r) ?_ ?_
     ·
      rintro ⟨v29, x30, v31, x32⟩ w junk ⟨h, hs⟩
      refine wc_region (wl_ok (r_add rfl rfl e28r) (wl_ok (r_move (v := (.int .i64 ((i23 + 1)))) rfl) (wl_nil (then_loop ?_))))
      replace h := h.copyRp 13 11 rfl
      subst hnx26
      exact lend ⟨k22 + 1, i23 + 1, v29, x30, v31, x32⟩ ⟨h.cn _, by omega, hs⟩ (by have := of_decide_eq_true e27; dsimp only; omega)
     ·
      refine wc_block (wc_seq (wc_region ?_))
      obtain ⟨b34, o35, cs36, h, r37, i33⟩ := h.ixS 1 14 rfl SliceOf59 rfl (nat_nn hik) (get_nat hik e28a)
      obtain ⟨u38, rfl, g39⟩ := rCo_open r37
      replace h := h.knowRd 15 g39.up
      refine wl_ok (i33 _ _ _ _ _ _ _ _ _ rfl rfl) (wl_ok (r_ldPN (k := 0) (vs := [(.int .i64 (x24.id_)), (.int .i64 (x24.epoch)), u38, (.int .i64 (x24.offered))]) h 14 rfl Many66 rfl rfl rfl (Nat.le_of_ble_eq_true rfl)) (w_allocN h 16 Many66 fun w b40 h => w_stN (vs := [(.int .i64 (x24.id_)), (.int .i64 (x24.epoch)), u38, (.int .i64 (x24.offered))]) h 16 [(.int .i64 (x24.id_)), (.int .i64 (x24.epoch)), u38, (.int .i64 (x24.offered))] rfl Many66 rfl rfl rfl rfl rfl (ones_cons rfl (ones_cons rfl (ones_cons (h.rdAt 15 rfl).one (ones_cons rfl ones_nil)))) fun w h => wl_nil (then_normal (wc_seq (wc_region (wl_ok (r_fieldAddr Fld66x0 rfl) (wl_ok (r_ldB h 16 rfl One3 rfl rfl) (wl_ok (r_fieldAddr Fld61x1 rfl) (wl_ok (r_ldB h 4 rfl One3 rfl rfl) (wl_ok (r_eql rfl rfl) (wl_nil (then_normal (wc_ifb hs rfl (fun c41 hs => ?_) (fun c41 hs => ?_))))))))))))))
      ·
       refine wc_region (wl_ok (r_assign (v := (.pointer (some ⟨b40, 0, none⟩))) rfl) (wl_nil (inBlock_normal (then_loop ?_))))
       replace h := h.boxRp (R := rCo) (x := x24) 16 13 rfl rfl ⟨_, rfl, (h.rdAt 15 rfl)⟩
       exact jend ((.pointer (some ⟨b40, 0, none⟩)), (some x24), v20, x21) ⟨h.cn _, hs⟩
      ·
       refine wc_region (wl_ok (r_move (v := v20) rfl) (wl_ok (r_ldBN (vs := [(.int .i64 (x24.id_)), (.int .i64 (x24.epoch)), u38, (.int .i64 (x24.offered))]) h 16 rfl Many66 rfl rfl rfl) (w_bs (R := rCo) (vs := [(.agg #[(.int .i64 (x24.id_)), (.int .i64 (x24.epoch)), u38, (.int .i64 (x24.offered))])]) (xs := [x24]) h 17 ElemOf59 rfl rfl rfl ⟨⟨_, rfl, (h.rdAt 15 rfl)⟩, trivial⟩ rfl fun w u42 h => ?_)))
       obtain ⟨a43, hs⟩ := o_grd hs
       refine w_app (R := rCo) (m := [x24]) h 12 rfl (h.ownS 17 rfl) ElemOf59 rfl rfl rfl a43.1 a43.2 fun w u44 h => wl_ok (r_assign (v := u44) rfl) (wl_nil (inBlock_normal (then_loop ?_)))
       replace h := h.copyRp 11 13 rfl
       exact jend (v18, x19, u44, (x21 ++ [x24])) ⟨h.cn _, hs⟩
    ·
     rw [drop_ge (hik ▸ e27), each_nil] at hs
     refine wc_exit (then_exit (then_exit (inBlock_eq (then_normal (wc_seq (wc_region (w_allocN h 18 Many66 fun w b45 h => wl_nil (then_normal (wc_join (σ := Int × Int × Value × List Int × Int) (inl [4, 5, 39, 40, 41, 42, 43, 44, 45, 46, 47, 48, 49, 50, 51, 52, 53, 54, 55, 56, 57, 58, 59, 60, 61, 62, 63, 64, 65, 66, 67, 68, 69, 70, 71, 72, 73, 74, 75, 76, 77, 78, 79, 80, 81, 82, 83, 84, 85, 86, 87, 88, 89, 90, 91, 92, 93, 94]) (fun ⟨y46, y47, v48, y49, y50⟩ => []) (fun ⟨y46, y47, v48, y49, y50⟩ w => SH w0 M BE w (hset [(12, .own rCo 66 v20 x21), (18, .blk b45 [(.int .i64 (y46)), (.int .i64 (y47)), v48, (.int .i64 (y50))]), (19, .rd rInt v48 y49)]) ∧ wandererref_Nexted_j10 x21 y46 y47 y49 y50 = some r) ?_ ?_)))))))))
     ·
      rintro ⟨y46, y47, v48, y49, y50⟩ w junk ⟨h, hs⟩
      refine wc_seq (wc_region (wl_ok (r_move (v := v20) rfl) (wl_ok (r_ldBN (vs := [(.int .i64 (y46)), (.int .i64 (y47)), v48, (.int .i64 (y50))]) h 18 rfl Many66 rfl rfl rfl) (w_bs (R := rCo) (vs := [(.agg #[(.int .i64 (y46)), (.int .i64 (y47)), v48, (.int .i64 (y50))])]) (xs := [(⟨y46, y47, y49, y50⟩ : Co)]) h 20 ElemOf59 rfl rfl rfl ⟨⟨_, rfl, (h.rdAt 19 rfl)⟩, trivial⟩ rfl fun w u51 h => ?_))))
      obtain ⟨a52, hs⟩ := o_grd hs
      refine w_app (R := rCo) (m := [(⟨y46, y47, y49, y50⟩ : Co)]) h 12 rfl (h.ownS 20 rfl) ElemOf59 rfl rfl rfl a52.1 a52.2 fun w u53 h => wl_ok (r_assign (v := u53) rfl) (wl_nil (then_normal (wc_seq (wc_region (wl_ok (r_move (v := u53) rfl) ?_)))))
      obtain ⟨a54, hs⟩ := o_grd hs
      refine w_call fnOk101 rfl rfl (sortf101_c _ _ u53 (x21 ++ [(⟨y46, y47, y49, y50⟩ : Co)]) (h.giveO 12 rfl) a54.1 a54.2) ?_
      rintro _ w ⟨rfl, g55, k56⟩
      refine ⟨_, rfl, ?_⟩
      replace h := h.given 12 rfl g55 k56 (fun b hb _ => hb)
      refine wl_nil (then_normal (wc_seq (wc_region (wl_ok (r_move (v := u53) rfl) (wl_ok (r_assign (v := u53) rfl) (wl_ok (r_assign (v := (.int .i64 (0))) rfl) (wl_nil (then_normal (wc_ret (fin2 (v1 := u53) (v2 := (.int .i64 (0))) Try.results54 rfl rfl ?_))))))))))
      obtain rfl := Option.some.inj hs
      exact ⟨h.grown, _, rfl, (h.outOwn 12 rfl).1, (h.outOwn 12 rfl).2⟩
     ·
      refine wc_seq (wc_region (wl_ok (r_fieldAddr Fld61x0 rfl) (wl_ok (r_ldB h 4 rfl One3 rfl rfl) (wl_nil (then_normal (wc_block (wc_join (σ := Bool) (inl [76, 77, 78]) (fun x57 => [(76, (.bool (x57)))]) (fun x57 w => SH w0 M BE w (hset [(2, .sr rInt vb4 b.says), (3, .rd rInt vb5 b.image), (4, .blk b1 [(.int .i64 (b.kind)), (.int .i64 (b.co)), (.int .i64 (b.epoch)), (.int .i64 (b.place)), vb4, vb5]), (11, .rp (rPtr rCo) v18 x19), (12, .own rCo 66 v20 x21), (18, .blk b45 [(.int .i64 (0)), (.int .i64 (0)), (.slice none 0 0), (.int .i64 (0))])]) ∧ wandererref_Nexted_j11 x19 b x21 x57 = some r) ?_ ?_)))))))
      ·
       rintro x57 w junk ⟨h, hs⟩
       refine wc_ifb hs rfl (fun c58 hs => ?_) (fun c58 hs => ?_)
       ·
        refine wc_seq (wc_seq (wc_region (wl_ok (r_move (v := v18) rfl) (wl_ok (r_neptr PtrTo108 rfl (h.rpAt 11 rfl) rfl) (wl_nil (then_normal (wc_ifb hs rfl (fun c59 hs => ?_) (fun c59 hs => ?_))))))))
        ·
         refine wc_seq (wc_region (wl_ok (r_assign (v := (.slice none 0 0)) rfl) (wl_ok (r_assign (v := (.int .i64 (6))) rfl) (wl_nil (then_normal (wc_ret (then_ret (inBlock_ret (then_ret (fin2 (v1 := (.slice none 0 0)) (v2 := (.int .i64 (6))) Try.results54 rfl rfl ?_))))))))))
         obtain rfl := Option.some.inj hs
         exact ⟨h.grown, _, rfl, OwnSl.nil, fresh_nil⟩
        ·
         refine wc_skip (then_normal (wc_seq (wc_seq (wc_region (wl_ok (r_fieldAddr Fld61x2 rfl) (wl_ok (r_ldB h 4 rfl One3 rfl rfl) (wl_ok (r_eql rfl rfl) (wl_ok (r_fieldAddr Fld61x0 rfl) (wl_ok (r_ldB h 4 rfl One3 rfl rfl) (wl_ok (r_eql rfl rfl) (wl_ok (r_neqb Try.underlying4 rfl rfl) (wl_nil (then_normal (wc_ifb hs rfl (fun c60 hs => ?_) (fun c60 hs => ?_)))))))))))))))
         ·
          refine wc_seq (wc_region (wl_ok (r_assign (v := (.slice none 0 0)) rfl) (wl_ok (r_assign (v := (.int .i64 (7))) rfl) (wl_nil (then_normal (wc_ret (then_ret (inBlock_ret (then_ret (fin2 (v1 := (.slice none 0 0)) (v2 := (.int .i64 (7))) Try.results54 rfl rfl ?_))))))))))
          obtain rfl := Option.some.inj hs
          exact ⟨h.grown, _, rfl, OwnSl.nil, fresh_nil⟩
         ·
          refine wc_skip (then_normal (wc_region (wl_ok (r_fieldAddr Fld61x1 rfl) (wl_ok (r_ldB h 4 rfl One3 rfl rfl) (wl_ok (r_fieldAddr Fld61x2 rfl) (wl_ok (r_ldB h 4 rfl One3 rfl rfl) (wl_ok (r_fieldAddr Fld61x5 rfl) (wl_ok (r_ldB h 4 rfl One24 rfl rfl) (wl_ok (r_build (pv := [(0, (.int .i64 (b.co))), (1, (.int .i64 (b.epoch))), (2, vb5), (3, (.int .i64 (-1)))]) (out := [(.int .i64 (b.co)), (.int .i64 (b.epoch)), vb5, (.int .i64 (-1))]) Struct66 rfl ⟨0, 1, [(.int .i64 (b.co))], rfl, rfl, rfl, Nat.le_of_ble_eq_true rfl, ⟨1, 1, [(.int .i64 (b.epoch))], rfl, rfl, rfl, Nat.le_of_ble_eq_true rfl, ⟨2, 1, [vb5], rfl, (toList_of_one (h.rdAt 3 rfl).one), rfl, Nat.le_of_ble_eq_true rfl, ⟨3, 1, [(.int .i64 (-1))], rfl, rfl, rfl, Nat.le_of_ble_eq_true rfl, rfl⟩⟩⟩⟩) (w_stN (vs := [(.int .i64 (b.co)), (.int .i64 (b.epoch)), vb5, (.int .i64 (-1))]) h 18 [(.int .i64 (b.co)), (.int .i64 (b.epoch)), vb5, (.int .i64 (-1))] rfl Many66 rfl rfl rfl rfl rfl (ones_cons rfl (ones_cons rfl (ones_cons (h.rdAt 3 rfl).one (ones_cons rfl ones_nil)))) fun w h => wl_nil (inBlock_normal (then_loop ?_))))))))))))
          replace h := h.copyR 3 19 rfl
          exact jend (b.co, b.epoch, vb5, b.image, -1) ⟨h.cn _, hs⟩
       ·
        refine wc_seq (wc_seq (wc_region (wl_ok (r_move (v := v18) rfl) (wl_ok (r_eqptr PtrTo108 rfl (h.rpAt 11 rfl) rfl) (wl_nil (then_normal (wc_ifb hs rfl (fun c61 hs => ?_) (fun c61 hs => ?_))))))))
        ·
         refine wc_seq (wc_region (wl_ok (r_assign (v := (.slice none 0 0)) rfl) (wl_ok (r_assign (v := (.int .i64 (5))) rfl) (wl_nil (then_normal (wc_ret (then_ret (inBlock_ret (then_ret (fin2 (v1 := (.slice none 0 0)) (v2 := (.int .i64 (5))) Try.results54 rfl rfl ?_))))))))))
         obtain rfl := Option.some.inj hs
         exact ⟨h.grown, _, rfl, OwnSl.nil, fresh_nil⟩
        ·
         refine wc_skip (then_normal (wc_seq (wc_region (wl_ok (r_move (v := v18) rfl) ?_))))
         obtain ⟨x62, e63, hs⟩ := o_bind hs
         obtain ⟨b64, cs65, e66, h, r67⟩ := h.openRp 11 21 rfl e63
         obtain ⟨u68, rfl, g69⟩ := rCo_open r67
         replace h := h.knowRd 22 g69.up
         refine wl_ok (r_nilCheckP rfl e66) (wl_ok (r_ldPN (k := 0) (vs := [(.int .i64 (x62.id_)), (.int .i64 (x62.epoch)), u68, (.int .i64 (x62.offered))]) h 21 rfl Many66 rfl rfl rfl (Nat.le_of_ble_eq_true rfl)) (w_stN (vs := [(.int .i64 (x62.id_)), (.int .i64 (x62.epoch)), u68, (.int .i64 (x62.offered))]) h 18 [(.int .i64 (x62.id_)), (.int .i64 (x62.epoch)), u68, (.int .i64 (x62.offered))] rfl Many66 rfl rfl rfl rfl rfl (ones_cons rfl (ones_cons rfl (ones_cons (h.rdAt 22 rfl).one (ones_cons rfl ones_nil)))) fun w h => wl_nil (then_normal (wc_seq (wc_seq (wc_region (wl_ok (r_fieldAddr Fld61x2 rfl) (wl_ok (r_ldB h 4 rfl One3 rfl rfl) (wl_ok (r_fieldAddr Fld66x1 rfl) (wl_ok (r_ldB h 18 rfl One3 rfl rfl) (wl_ok (r_neq rfl rfl) (wl_ok (r_move (v := (.bool (decide ((b.epoch : Int) ≠ x62.epoch)))) rfl) (wl_gd0 rfl rfl (fun q => r_fieldAddr Fld66x3 rfl) (wl_gd0 rfl rfl (fun q => r_ldB h 18 rfl One3 (gvt q) rfl) (wl_gd0 rfl rfl (fun q => r_neq (gvt q) rfl) (wl_gd0 rfl rfl (fun q => r_fieldAddr Fld61x0 rfl) (wl_gd0 rfl rfl (fun q => r_ldB h 4 rfl One3 (gvt q) rfl) (wl_gd0 rfl rfl (fun q => r_eql (gvt q) rfl) (wl_gd0 rfl rfl (fun q => r_neqb Try.underlying4 (gvt q) (gvt q)) (wl_ok (r_por rfl rfl evc) (wl_nil (then_normal ?_))))))))))))))))))))))
         refine wc_ifb hs rfl (fun c70 hs => ?_) (fun c70 hs => ?_)
         ·
          refine wc_seq (wc_region (wl_ok (r_assign (v := (.slice none 0 0)) rfl) (wl_ok (r_assign (v := (.int .i64 (7))) rfl) (wl_nil (then_normal (wc_ret (then_ret (inBlock_ret (then_ret (fin2 (v1 := (.slice none 0 0)) (v2 := (.int .i64 (7))) Try.results54 rfl rfl ?_))))))))))
          obtain rfl := Option.some.inj hs
          exact ⟨h.grown, _, rfl, OwnSl.nil, fresh_nil⟩
         ·
          refine wc_skip (then_normal (wc_seq (wc_seq (wc_region (wl_ok (r_fieldAddr Fld61x0 rfl) (wl_ok (r_ldB h 4 rfl One3 rfl rfl) (wl_ok (r_eql rfl rfl) (wl_nil (then_normal (wc_ifb hs rfl (fun c71 hs => ?_) (fun c71 hs => ?_)))))))))))
          ·
           refine wc_seq (wc_region (wl_ok (r_move (v := v20) rfl) (wl_ok (r_assign (v := v20) rfl) (wl_ok (r_assign (v := (.int .i64 (0))) rfl) (wl_nil (then_normal (wc_ret (then_ret (inBlock_ret (then_ret (fin2 (v1 := v20) (v2 := (.int .i64 (0))) Try.results54 rfl rfl ?_)))))))))))
           obtain rfl := Option.some.inj hs
           exact ⟨h.grown, _, rfl, (h.outOwn 12 rfl).1, (h.outOwn 12 rfl).2⟩
          ·
           refine wc_skip (then_normal (wc_seq (wc_region (wl_ok (r_fieldAddr Fld61x0 rfl) (wl_ok (r_ldB h 4 rfl One3 rfl rfl) (wl_ok (r_eql rfl rfl) (wl_nil (then_normal (wc_ifb hs rfl (fun c72 hs => ?_) (fun c72 hs => ?_))))))))))
           ·
            refine wc_region (wl_ok (r_fieldAddr Fld61x5 rfl) (wl_ok (r_ldB h 4 rfl One24 rfl rfl) (wl_ok (r_fieldAddr Fld66x2 rfl) (w_st1 h 18 [(.int .i64 (x62.id_)), (.int .i64 (x62.epoch)), vb5, (.int .i64 (x62.offered))] rfl One24 rfl rfl rfl rfl (h.rdAt 3 rfl).one fun w h => wl_nil (inBlock_normal (then_loop ?_))))))
            replace h := h.copyR 3 19 rfl
            exact jend (x62.id_, x62.epoch, vb5, b.image, x62.offered) ⟨h.cn _, hs⟩
           ·
            refine wc_seq (wc_region (wl_ok (r_fieldAddr Fld61x3 rfl) (wl_ok (r_ldB h 4 rfl One3 rfl rfl) (wl_ok (r_fieldAddr Fld66x3 rfl) (w_st1 h 18 [(.int .i64 (x62.id_)), (.int .i64 (x62.epoch)), u68, (.int .i64 (b.place))] rfl One3 rfl rfl rfl rfl rfl fun w h => wl_nil (then_normal (wc_seq (wc_region (wl_ok (r_fieldAddr Fld66x1 rfl) (wl_ok (r_ldB h 18 rfl One3 rfl rfl) (wl_ok (r_eql rfl rfl) (wl_nil (then_normal (wc_ifb hs rfl (fun c73 hs => ?_) (fun c73 hs => ?_)))))))))))))))
            ·
             refine wc_seq (wc_region (wl_ok (r_assign (v := (.slice none 0 0)) rfl) (wl_ok (r_assign (v := (.int .i64 (2))) rfl) (wl_nil (then_normal (wc_ret (inBlock_ret (then_ret (fin2 (v1 := (.slice none 0 0)) (v2 := (.int .i64 (2))) Try.results54 rfl rfl ?_)))))))))
             obtain rfl := Option.some.inj hs
             exact ⟨h.grown, _, rfl, OwnSl.nil, fresh_nil⟩
            ·
             refine wc_skip (inBlock_normal (then_loop ?_))
             replace h := h.copyR 22 19 rfl
             exact jend (x62.id_, x62.epoch, u68, x62.image, b.place) ⟨h.cn _, hs⟩
      ·
       refine wc_seq (wc_region (wl_ok (r_eql rfl rfl) (wl_ok (r_assign (v := (.bool (decide ((b.kind : Int) = 1)))) rfl) (wl_nil (then_normal (wc_ifb hs rfl (fun c74 hs => ?_) (fun c74 hs => ?_)))))))
       ·
        refine wc_skip (then_loop ?_)
        exact jend (decide ((b.kind : Int) = 1)) ⟨h.cn _, hs⟩
       ·
        refine wc_region (wl_ok (r_eql rfl rfl) (wl_ok (r_assign (v := (.bool (decide ((b.kind : Int) = 4)))) rfl) (wl_nil (then_loop ?_))))
        exact jend (decide ((b.kind : Int) = 4)) ⟨h.cn _, hs⟩
def wandererref_SameCos_j22 (nx6 : Unit → Option Bool) (x27 : Bool) : Option Bool :=
  bif x27 then some false else nx6 ()
def wandererref_SameCos_b23 (b : List Co) (i3 : Int) (x4 : Co) (s : Unit) (nx6 : Unit → Option Bool) : Option Bool :=
  (idx b i3).bind fun x17 => bif ((decide ((x4.id_ : Int) = x17.id_) && decide ((x4.epoch : Int) = x17.epoch)) && decide ((x4.offered : Int) = x17.offered)) then (slices_Equal_int x4.image x17.image).bind fun y32 => wandererref_SameCos_j22 nx6 (!y32) else wandererref_SameCos_j22 nx6 true
def wandererref_SameCos_k24 (s : Unit) : Option Bool :=
  some true
def wandererref_SameCos (a : List Co) (b : List Co) : Option Bool :=
  bif decide (((a.length : Int) : Int) ≠ (b.length : Int)) then some false else eachI (wandererref_SameCos_b23 b) wandererref_SameCos_k24 0 a ()
theorem wandererref_SameCos_c (w0 : World) (M : BS) (hM : ∀ b, M b → b < w0.heap.size) (va : Value) (a : List Co) (ha : Rd2 rCo w0 BE M va a) (vb : Value) (b : List Co) (hb : Rd2 rCo w0 BE M vb b) (r : Bool) (hs : wandererref_SameCos a b = some r) :
    Calls Try.prog 56 #[va, vb] w0 (fun e w' => Grow w0 w' ∧ e = .returned (.bool r)) := by
 refine calls_start (args := [va, vb]) Try.func56 rfl Try.ntmps56 (Nat.le_of_ble_eq_true rfl) ?_
 have h := SH.init hM
 replace h := h.argSr 1 ha none_own
 replace h := h.argSr 2 hb (hupd_own_sr none_own)
 have hl_a := ha.len_le
 have hl_b := hb.len_le
 refine wc_seq (wc_region (wl_ok (r_assign (v := (.bool (false))) rfl) (wl_nil (then_normal (wc_seq (wc_region (wl_ok (r_move (v := va) rfl) (wl_ok (r_move (v := vb) rfl) (w_callIn (args := [va, vb, (.func (.func 103) #[] #[])]) fnOk81 rfl rfl (calls_start (args := [va, vb, (.func (.func 103) #[] #[])]) Try.func81 rfl Try.ntmps81 (Nat.le_of_ble_eq_true rfl) (wc_seq (wc_region (wl_ok (r_assign (v := (.bool (false))) rfl) (wl_nil (then_normal (wc_seq (wc_seq (wc_region (wl_ok (r_move (v := va) rfl) (wl_ok (r_len SliceOf59 rfl (h.srS 1 rfl)) (wl_ok (r_move (v := vb) rfl) (wl_ok (r_len SliceOf59 rfl (h.srS 2 rfl)) (wl_ok (r_neq rfl rfl) ?_)))))))))))))))))))))))
 refine wl_nil (then_normal (wc_ifb hs rfl (fun c1 hs => ?_) (fun c1 hs => ?_)))
 ·
  refine wc_seq (wc_region (wl_ok (r_assign (v := (.bool (false))) rfl) (wl_nil (then_normal (wc_ret (then_ret (fin1 (v := (.bool (false))) Try.results81 rfl (⟨_, rfl, ?_⟩))))))))
  refine wl_ok (r_assign (v := (.bool (false))) rfl) (wl_nil (then_normal (wc_ret (fin1 (v := (.bool (false))) Try.results56 rfl ?_))))
  obtain rfl := Option.some.inj hs
  exact ⟨h.grown, rfl⟩
 ·
  refine wc_skip (then_normal (wc_seq (wc_seq (wc_region (wl_ok (r_move (v := va) rfl) (wl_ok (r_len SliceOf59 rfl (h.srS 1 rfl)) (wl_ok (r_move (v := (.int .i64 (0))) rfl) (wl_nil (then_normal (wc_block (wc_lp (σ := Nat × Int) (inl [6, 7, 8, 9, 17, 18, 19, 20, 21, 22, 23, 24, 25, 26, 27, 28, 29, 30, 31]) (fun ⟨k2, i3⟩ => [(17, (.int .i64 (i3)))]) (fun ⟨k2, i3⟩ w => SH w0 M BE w (hset [(1, .sr rCo va a), (2, .sr rCo vb b)]) ∧ i3 = (k2 : Int) ∧ eachI (wandererref_SameCos_b23 b) wandererref_SameCos_k24 i3 (a.drop k2) () = some r) (fun ⟨k2, i3⟩ => a.length - k2) ⟨0, 0⟩ ⟨rfl, trivial⟩ ?_ ?_)))))))))))
  ·
   exact ⟨h.cn _, rfl, hs⟩
  ·
   rintro ⟨k2, i3⟩ w junk ⟨h, hik, hs⟩
   refine wc_seq (wc_region ?_)
   refine wl_ok (r_lss rfl rfl) (wl_nil (then_normal ?_))
   refine wc_seq (wc_if rfl (fun e7 => ?_) (fun e7 => ?_))
   ·
    refine wc_skip (then_normal ?_)
    obtain ⟨x4, e8a, e8b⟩ := drop_lt (hik ▸ e7)
    rw [e8b, eachI_cons] at hs
    generalize hnx6 : eachI (wandererref_SameCos_b23 b) wandererref_SameCos_k24 (i3 + 1) (a.drop (k2 + 1)) = nx6 at hs
    have e8r := nat_rng ((h.srS 1 rfl)).len_le hik e7
    refine wc_seq (wc_block (wc_seq (wc_region (wl_ok (r_move (v := (.int .i64 (i3))) rfl) ?_))))
    obtain ⟨b10, o11, cs12, h, r13, i9⟩ := h.ixS 1 3 rfl SliceOf59 rfl (nat_nn hik) (get_nat hik e8a)
    obtain ⟨u14, rfl, g15⟩ := rCo_open r13
    replace h := h.knowRd 4 g15.up
    refine wl_ok (i9 _ _ _ _ _ _ _ _ _ rfl rfl) (wl_ok (r_ldPN (k := 0) (vs := [(.int .i64 (x4.id_)), (.int .i64 (x4.epoch)), u14, (.int .i64 (x4.offered))]) h 3 rfl Many66 rfl rfl rfl (Nat.le_of_ble_eq_true rfl)) (w_allocN h 5 Many66 fun w b16 h => wl_ok (r_assign (v := (.int .i64 (i3))) rfl) (w_stN (vs := [(.int .i64 (x4.id_)), (.int .i64 (x4.epoch)), u14, (.int .i64 (x4.offered))]) h 5 [(.int .i64 (x4.id_)), (.int .i64 (x4.epoch)), u14, (.int .i64 (x4.offered))] rfl Many66 rfl rfl rfl rfl rfl (ones_cons rfl (ones_cons rfl (ones_cons (h.rdAt 4 rfl).one (ones_cons rfl ones_nil)))) fun w h => wl_nil (then_normal (wc_seq (wc_region (wl_ok (r_move (v := vb) rfl) (wl_ok (r_move (v := (.int .i64 (i3))) rfl) ?_))))))))
    obtain ⟨x17, e18, hs⟩ := o_bind hs
    obtain ⟨b20, o21, cs22, h, r23, i19⟩ := h.ixS 2 6 rfl SliceOf59 rfl (o_idx e18).1 (o_idx e18).2
    obtain ⟨u24, rfl, g25⟩ := rCo_open r23
    replace h := h.knowRd 7 g25.up
    refine wl_ok (i19 _ _ _ _ _ _ _ _ _ rfl rfl) (wl_ok (r_ldPN (k := 0) (vs := [(.int .i64 (x17.id_)), (.int .i64 (x17.epoch)), u24, (.int .i64 (x17.offered))]) h 6 rfl Many66 rfl rfl rfl (Nat.le_of_ble_eq_true rfl)) (w_allocN h 8 Many66 fun w b26 h => w_stN (vs := [(.int .i64 (x17.id_)), (.int .i64 (x17.epoch)), u24, (.int .i64 (x17.offered))]) h 8 [(.int .i64 (x17.id_)), (.int .i64 (x17.epoch)), u24, (.int .i64 (x17.offered))] rfl Many66 rfl rfl rfl rfl rfl (ones_cons rfl (ones_cons rfl (ones_cons (h.rdAt 7 rfl).one (ones_cons rfl ones_nil)))) fun w h => wl_nil (then_normal (wc_join (σ := Bool) (inl [26, 27, 28, 29, 30]) (fun x27 => [(30, (.bool (x27)))]) (fun x27 w => SH w0 M BE w (hset [(1, .sr rCo va a), (2, .sr rCo vb b)]) ∧ wandererref_SameCos_j22 nx6 x27 = some r) ?_ ?_))))
    ·
     rintro x27 w junk ⟨h, hs⟩
     refine wc_ifb hs rfl (fun c28 hs => ?_) (fun c28 hs => ?_)
     ·
      refine wc_seq (wc_region (wl_ok (r_assign (v := (.bool (false))) rfl) (wl_nil (then_normal (wc_ret (inBlock_ret (then_ret (then_ret (inBlock_ret (then_ret (fin1 (v := (.bool (false))) Try.results81 rfl (⟨_, rfl, ?_⟩))))))))))))
      refine wl_ok (r_assign (v := (.bool (false))) rfl) (wl_nil (then_normal (wc_ret (fin1 (v := (.bool (false))) Try.results56 rfl ?_))))
      obtain rfl := Option.some.inj hs
      exact ⟨h.grown, rfl⟩
     ·
      refine wc_skip (inBlock_normal (then_normal (wc_region (wl_ok (r_add rfl rfl e8r) (wl_ok (r_move (v := (.int .i64 ((i3 + 1)))) rfl) (wl_nil (then_loop ?_)))))))
      subst hnx6
      exact lend ⟨k2 + 1, i3 + 1⟩ ⟨h.cn _, by omega, hs⟩ (by have := of_decide_eq_true e7; dsimp only; omega)
    ·
     refine wc_region (wl_ok (r_move (v := (.func (.func 103) #[] #[])) rfl) (wl_ok (r_ldBN (vs := [(.int .i64 (x4.id_)), (.int .i64 (x4.epoch)), u14, (.int .i64 (x4.offered))]) h 5 rfl Many66 rfl rfl rfl) (wl_ok (r_ldBN (vs := [(.int .i64 (x17.id_)), (.int .i64 (x17.epoch)), u24, (.int .i64 (x17.offered))]) h 8 rfl Many66 rfl rfl rfl) (w_callIn (args := [(.agg #[(.int .i64 (x4.id_)), (.int .i64 (x4.epoch)), u14, (.int .i64 (x4.offered))]), (.agg #[(.int .i64 (x17.id_)), (.int .i64 (x17.epoch)), u24, (.int .i64 (x17.offered))])]) fnOk103 rfl rfl (calls_start (args := [(.agg #[(.int .i64 (x4.id_)), (.int .i64 (x4.epoch)), u14, (.int .i64 (x4.offered))]), (.agg #[(.int .i64 (x17.id_)), (.int .i64 (x17.epoch)), u24, (.int .i64 (x17.offered))])]) Try.func103 rfl Try.ntmps103 (Nat.le_of_ble_eq_true rfl) (wc_seq (wc_region (w_box (cs := [(.int .i64 (x4.id_)), (.int .i64 (x4.epoch)), u14, (.int .i64 (x4.offered))]) h 9 rfl rfl fun w b29 h => w_box (cs := [(.int .i64 (x17.id_)), (.int .i64 (x17.epoch)), u24, (.int .i64 (x17.offered))]) h 10 rfl rfl fun w b30 h => wl_ok (r_assign (v := (.bool (false))) rfl) (wl_nil (then_normal (wc_seq (wc_region (wl_ok (r_fieldAddr Fld66x0 rfl) (wl_ok (r_ldB h 9 rfl One3 rfl rfl) (wl_ok (r_fieldAddr Fld66x0 rfl) (wl_ok (r_ldB h 10 rfl One3 rfl rfl) (wl_ok (r_eql rfl rfl) (wl_ok (r_move (v := (.bool (decide ((x4.id_ : Int) = x17.id_)))) rfl) (wl_gd0 rfl rfl (fun q => r_fieldAddr Fld66x1 rfl) (wl_gd0 rfl rfl (fun q => r_ldB h 9 rfl One3 (gvt q) rfl) (wl_gd0 rfl rfl (fun q => r_fieldAddr Fld66x1 rfl) ?_)))))))))))))))))))))
     refine wl_gd0 rfl rfl (fun q => r_ldB h 10 rfl One3 (gvt q) rfl) (wl_gd0 rfl rfl (fun q => r_eql (gvt q) (gvt q)) (wl_ok (r_pand rfl rfl evc) (wl_ok (r_move (v := (.bool ((decide ((x4.id_ : Int) = x17.id_) && decide ((x4.epoch : Int) = x17.epoch))))) rfl) (wl_gd0 rfl rfl (fun q => r_fieldAddr Fld66x3 rfl) (wl_gd0 rfl rfl (fun q => r_ldB h 9 rfl One3 (gvt q) rfl) (wl_gd0 rfl rfl (fun q => r_fieldAddr Fld66x3 rfl) (wl_gd0 rfl rfl (fun q => r_ldB h 10 rfl One3 (gvt q) rfl) (wl_gd0 rfl rfl (fun q => r_eql (gvt q) (gvt q)) (wl_ok (r_pand rfl rfl evc) (wl_ok (r_move (v := (.bool (((decide ((x4.id_ : Int) = x17.id_) && decide ((x4.epoch : Int) = x17.epoch)) && decide ((x4.offered : Int) = x17.offered))))) rfl) (c_split (b := ((decide ((x4.id_ : Int) = x17.id_) && decide ((x4.epoch : Int) = x17.epoch)) && decide ((x4.offered : Int) = x17.offered))) hs (fun c31 hs => ?_) (fun c31 hs => ?_))))))))))))
     ·
      refine wl_on rfl (congrArg Value.bool c31) (wl_ok (r_fieldAddr Fld66x2 rfl) (wl_on rfl (congrArg Value.bool c31) (wl_ok (r_ldB h 9 rfl One24 rfl rfl) (wl_on rfl (congrArg Value.bool c31) (wl_ok (r_fieldAddr Fld66x2 rfl) (wl_on rfl (congrArg Value.bool c31) (wl_ok (r_ldB h 10 rfl One24 rfl rfl) (wl_on rfl (congrArg Value.bool c31) ?_))))))))
      obtain ⟨y32, e33, hs⟩ := o_bind hs
      refine w_call fnOk14 rfl rfl (slices_Equal_int_c _ _ h.lt u14 x4.image (h.rdS 4 rfl) u24 x17.image (h.rdS 7 rfl) _ e33) ?_
      rintro _ w ⟨k34, rfl⟩
      refine ⟨_, rfl, ?_⟩
      replace h := h.grow k34
      refine wl_ok (r_pick (b := true) (v := (.bool (y32))) (congrArg Value.bool c31) rfl) (wl_ok (r_assign (v := (.bool (y32))) rfl) (wl_nil (then_normal (wc_ret (fin1 (v := (.bool (y32))) Try.results103 rfl (⟨_, rfl, ?_⟩))))))
      refine wl_ok (r_notb rfl) (wl_nil (then_loop ?_))
      exact jend (!y32) ⟨h.cn _, hs⟩
     ·
      refine wl_off (b' := false) rfl (congrArg Value.bool c31) rfl (wl_off (b' := false) rfl (congrArg Value.bool c31) rfl (wl_off (b' := false) rfl (congrArg Value.bool c31) rfl (wl_off (b' := false) rfl (congrArg Value.bool c31) rfl (wl_off (b' := false) rfl (congrArg Value.bool c31) rfl (wl_ok (r_pick (b := false) (v := (.bool (false))) (congrArg Value.bool c31) rfl) (wl_ok (r_assign (v := (.bool (false))) rfl) (wl_nil (then_normal (wc_ret (fin1 (v := (.bool (false))) Try.results103 rfl (⟨_, rfl, ?_⟩)))))))))))
      refine wl_ok (r_notb rfl) (wl_nil (then_loop ?_))
      exact jend true ⟨h.cn _, hs⟩
   ·
    rw [drop_ge (hik ▸ e7), eachI_nil] at hs
    refine wc_exit (then_exit (then_exit (inBlock_eq (then_normal (wc_seq (wc_region (wl_ok (r_assign (v := (.bool (true))) rfl) (wl_nil (then_normal (wc_ret (fin1 (v := (.bool (true))) Try.results81 rfl (⟨_, rfl, ?_⟩))))))))))))
    refine wl_ok (r_assign (v := (.bool (true))) rfl) (wl_nil (then_normal (wc_ret (fin1 (v := (.bool (true))) Try.results56 rfl ?_))))
    obtain rfl := Option.some.inj hs
    exact ⟨h.grown, rfl⟩
def wandererlaw_PlaceSays_b7 (a : List Co) (d : Int) (y31 : Int) (y3 : List Co × Int) (y9 : List Co × Int) (i35 : Int) (s : Unit) (nx38 : Unit → Option Bool) : Option Bool :=
  (idx a i35).bind fun x41 => bif decide ((x41.id_ : Int) = d) then bif (decide ((y31 : Int) = i35) && decide ((y3.2 : Int) = y9.2)) then (wandererref_SameCos y3.1 y9.1).bind fun y53 => some y53 else some false else nx38 ()
def wandererlaw_PlaceSays_k8 (y31 : Int) (y3 : List Co × Int) (y9 : List Co × Int) (s : Unit) : Option Bool :=
  bif (decide ((y31 : Int) = -1) && decide ((y3.2 : Int) = y9.2)) then (wandererref_SameCos y3.1 y9.1).bind fun y57 => some y57 else some false
def wandererlaw_PlaceSays (N : Nat) (a : List Co) (b : Rec) (c : List Co) (d : Int) : Option Bool :=
  (place_Next N a b).bind fun y3 => (wandererref_Nexted a b).bind fun y9 => (wandererlaw_held N).bind fun y15 => bif y15 then (place_Check a).bind fun y19 => bif decide ((y19 : Int) = (wandererref_CheckCos a)) then (place_Same a c).bind fun y24 => (wandererref_SameCos a c).bind fun y27 => bif (y24 == y27) then (place_Find a d).bind fun y31 => upto (wandererlaw_PlaceSays_b7 a d y31 y3 y9) (wandererlaw_PlaceSays_k8 y31 y3 y9) 0 ((a.length : Int)).toNat () else some false else some false else some false
theorem wandererlaw_PlaceSays_c (N : Nat) (w0 : World) (M : BS) (hM : ∀ b, M b → b < w0.heap.size) (va : Value) (a : List Co) (ha : Rd2 rCo w0 BE M va a) (b : Rec) (vb4 vb5 : Value) (hb4 : Rd2 rInt w0 BE M vb4 b.says) (hb5 : RdSl rInt w0 M vb5 b.image) (vc : Value) (c : List Co) (hc : Rd2 rCo w0 BE M vc c) (d : Int) (r : Bool) (hs : wandererlaw_PlaceSays N a b c d = some r) :
    Calls Try.prog 12 #[va, (.agg #[(.int .i64 (b.kind)), (.int .i64 (b.co)), (.int .i64 (b.epoch)), (.int .i64 (b.place)), vb4, vb5]), vc, (.int .i64 (d))] w0 (fun e w' => Grow w0 w' ∧ e = .returned (.bool r)) := by
 refine calls_start (args := [va, (.agg #[(.int .i64 (b.kind)), (.int .i64 (b.co)), (.int .i64 (b.epoch)), (.int .i64 (b.place)), vb4, vb5]), vc, (.int .i64 (d))]) Try.func12 rfl Try.ntmps12 (Nat.le_of_ble_eq_true rfl) ?_
 have h := SH.init hM
 replace h := h.argSr 1 ha none_own
 replace h := h.argSr 2 hb4 (hupd_own_sr none_own)
 replace h := h.argRd 3 hb5 (hupd_own_sr (hupd_own_sr none_own))
 replace h := h.argSr 4 hc (hupd_own_rd (hupd_own_sr (hupd_own_sr none_own)))
 have hl_a := ha.len_le
 have hl_c := hc.len_le
 refine wc_seq (wc_region (w_box (cs := [(.int .i64 (b.kind)), (.int .i64 (b.co)), (.int .i64 (b.epoch)), (.int .i64 (b.place)), vb4, vb5]) h 5 rfl rfl fun w b1 h => w_box (cs := [(.int .i64 (d))]) h 6 rfl rfl fun w b2 h => wl_ok (r_assign (v := (.bool (false))) rfl) (wl_nil (then_normal (wc_seq (wc_region (wl_ok (r_move (v := va) rfl) (wl_ok (r_ldBN (vs := [(.int .i64 (b.kind)), (.int .i64 (b.co)), (.int .i64 (b.epoch)), (.int .i64 (b.place)), vb4, vb5]) h 5 rfl Many61 rfl rfl rfl) ?_))))))))
 obtain ⟨y3, e4, hs⟩ := o_bind hs
 refine w_call fnOk38 rfl rfl (place_Next_c N _ _ h.lt va a (h.srS 1 rfl) b vb4 vb5 (h.srS 2 rfl) (h.rdS 3 rfl) _ e4) ?_
 rintro _ w ⟨k8, u5, rfl, g6, g7⟩
 refine ⟨_, rfl, ?_⟩
 replace h := h.gotOwn 7 k8 g6 g7
 refine wl_ok (r_move (v := (.tuple #[u5, (.int .i64 (y3.2))])) rfl) (wl_ok (r_extract rfl rfl) (wl_ok (r_extract rfl rfl) (wl_ok (r_assign (v := u5) rfl) (wl_ok (r_assign (v := (.int .i64 (y3.2))) rfl) (wl_nil (then_normal (wc_seq (wc_region (wl_ok (r_move (v := va) rfl) (wl_ok (r_ldBN (vs := [(.int .i64 (b.kind)), (.int .i64 (b.co)), (.int .i64 (b.epoch)), (.int .i64 (b.place)), vb4, vb5]) h 5 rfl Many61 rfl rfl rfl) ?_))))))))))
 obtain ⟨y9, e10, hs⟩ := o_bind hs
 refine w_call fnOk54 rfl rfl (wandererref_Nexted_c _ _ h.lt va a (h.srS 1 rfl) b vb4 vb5 (h.srS 2 rfl) (h.rdAt 3 rfl) _ e10) ?_
 rintro _ w ⟨k14, u11, rfl, g12, g13⟩
 refine ⟨_, rfl, ?_⟩
 replace h := h.gotOwn 8 k14 g12 g13
 refine wl_ok (r_move (v := (.tuple #[u11, (.int .i64 (y9.2))])) rfl) (wl_ok (r_extract rfl rfl) (wl_ok (r_extract rfl rfl) (wl_ok (r_assign (v := u11) rfl) (wl_ok (r_assign (v := (.int .i64 (y9.2))) rfl) (wl_nil (then_normal (wc_seq (wc_region ?_))))))))
 obtain ⟨y15, e16, hs⟩ := o_bind hs
 refine w_call fnOk39 rfl rfl (wandererlaw_held_c N _ _ h.lt  _ e16) ?_
 rintro _ w ⟨k17, rfl⟩
 refine ⟨_, rfl, ?_⟩
 replace h := h.grow k17
 refine wl_ok (r_move (v := (.bool (y15))) rfl) (c_split (b := y15) hs (fun c18 hs => ?_) (fun c18 hs => ?_))
 ·
  refine wl_on rfl (congrArg Value.bool c18) (wl_ok (r_move (v := va) rfl) (wl_on rfl (congrArg Value.bool c18) ?_))
  obtain ⟨y19, e20, hs⟩ := o_bind hs
  refine w_call fnOk40 rfl rfl (place_Check_c _ _ h.lt va a (h.srS 1 rfl) _ e20) ?_
  rintro _ w ⟨k21, rfl⟩
  refine ⟨_, rfl, ?_⟩
  replace h := h.grow k21
  refine wl_on rfl (congrArg Value.bool c18) (wl_ok (r_move (v := va) rfl) (wl_on rfl (congrArg Value.bool c18) (w_call fnOk55 rfl rfl (wandererref_CheckCos_c _ _ h.lt va a (h.srS 1 rfl) _ rfl) ?_)))
  rintro _ w ⟨k22, rfl⟩
  refine ⟨_, rfl, ?_⟩
  replace h := h.grow k22
  refine wl_on rfl (congrArg Value.bool c18) (wl_ok (r_eql rfl rfl) (wl_ok (r_pick (b := true) (v := (.bool (decide ((y19 : Int) = (wandererref_CheckCos a))))) (congrArg Value.bool c18) rfl) (wl_ok (r_move (v := (.bool (decide ((y19 : Int) = (wandererref_CheckCos a))))) rfl) (c_split (b := decide ((y19 : Int) = (wandererref_CheckCos a))) hs (fun c23 hs => ?_) (fun c23 hs => ?_)))))
  ·
   refine wl_on rfl (congrArg Value.bool c23) (wl_ok (r_move (v := va) rfl) (wl_on rfl (congrArg Value.bool c23) (wl_ok (r_move (v := vc) rfl) (wl_on rfl (congrArg Value.bool c23) ?_))))
   obtain ⟨y24, e25, hs⟩ := o_bind hs
   refine w_call fnOk42 rfl rfl (place_Same_c _ _ h.lt va a (h.srS 1 rfl) vc c (h.srS 4 rfl) _ e25) ?_
   rintro _ w ⟨k26, rfl⟩
   refine ⟨_, rfl, ?_⟩
   replace h := h.grow k26
   refine wl_on rfl (congrArg Value.bool c23) (wl_ok (r_move (v := va) rfl) (wl_on rfl (congrArg Value.bool c23) (wl_ok (r_move (v := vc) rfl) (wl_on rfl (congrArg Value.bool c23) ?_))))
   obtain ⟨y27, e28, hs⟩ := o_bind hs
   refine w_call fnOk56 rfl rfl (wandererref_SameCos_c _ _ h.lt va a (h.srS 1 rfl) vc c (h.srS 4 rfl) _ e28) ?_
   rintro _ w ⟨k29, rfl⟩
   refine ⟨_, rfl, ?_⟩
   replace h := h.grow k29
   refine wl_on rfl (congrArg Value.bool c23) (wl_ok (r_eqlb Try.underlying4 rfl rfl) (wl_ok (r_pick (b := true) (v := (.bool ((y24 == y27)))) (congrArg Value.bool c23) rfl) (wl_ok (r_move (v := (.bool ((y24 == y27)))) rfl) (c_split (b := (y24 == y27)) hs (fun c30 hs => ?_) (fun c30 hs => ?_)))))
   ·
    refine wl_on rfl (congrArg Value.bool c30) (wl_ok (r_move (v := va) rfl) (wl_on rfl (congrArg Value.bool c30) (wl_ok (r_ldB h 6 rfl One3 rfl rfl) (wl_on rfl (congrArg Value.bool c30) ?_))))
    obtain ⟨y31, e32, hs⟩ := o_bind hs
    refine w_call fnOk41 rfl rfl (place_Find_c _ _ h.lt va a (h.srS 1 rfl) d _ e32) ?_
    rintro _ w ⟨k33, rfl⟩
    refine ⟨_, rfl, ?_⟩
    replace h := h.grow k33
    refine wl_on rfl (congrArg Value.bool c30) (wl_ok (r_move (v := va) rfl) (wl_on rfl (congrArg Value.bool c30) (wl_ok (r_makeFunc (c1 := []) (c2 := [(.pointer (some ⟨b2, 0, none⟩))]) rfl rfl) (wl_on rfl (congrArg Value.bool c30) (w_callIn (args := [va, (.func (.func 58) #[] #[(.pointer (some ⟨b2, 0, none⟩))])]) fnOk57 rfl rfl (calls_start (args := [va, (.func (.func 58) #[] #[(.pointer (some ⟨b2, 0, none⟩))])]) Try.func57 rfl Try.ntmps57 (Nat.le_of_ble_eq_true rfl) (wc_seq (wc_region (wl_ok (r_assign (v := (.int .i64 (0))) rfl) (wl_nil (then_normal (wc_seq (wc_seq (wc_region (wl_ok (r_move (v := va) rfl) (wl_ok (r_len SliceOf59 rfl (h.srS 1 rfl)) (wl_ok (r_move (v := (.int .i64 (0))) rfl) (wl_nil (then_normal (wc_block ?_))))))))))))))))))))
    have hli35 := (h.srS 1 rfl).len_le
    refine wc_lp (σ := Nat × Int) (inl [4, 5, 8, 9, 10, 11, 12, 13, 14, 15, 16, 17, 18]) (fun ⟨k34, i35⟩ => [(8, (.int .i64 (i35)))]) (fun ⟨k34, i35⟩ w => SH w0 M BE w (hset [(1, .sr rCo va a), (2, .sr rInt vb4 b.says), (3, .rd rInt vb5 b.image), (4, .sr rCo vc c), (5, .blk b1 [(.int .i64 (b.kind)), (.int .i64 (b.co)), (.int .i64 (b.epoch)), (.int .i64 (b.place)), vb4, vb5]), (6, .blk b2 [(.int .i64 (d))]), (7, .own rCo 66 u5 y3.1), (8, .own rCo 66 u11 y9.1)]) ∧ i35 = (k34 : Int) ∧ upto (wandererlaw_PlaceSays_b7 a d y31 y3 y9) (wandererlaw_PlaceSays_k8 y31 y3 y9) i35 (((a.length : Int)).toNat - k34) () = some r) (fun ⟨k34, i35⟩ => ((a.length : Int)).toNat - k34) ⟨0, 0⟩ ⟨rfl, trivial⟩ ?_ ?_
    ·
     exact ⟨h.cn _, rfl, hs⟩
    ·
     rintro ⟨k34, i35⟩ w junk ⟨h, hik, hs⟩
     refine wc_seq (wc_region ?_)
     refine wl_ok (r_lss rfl rfl) (wl_nil (then_normal ?_))
     refine wc_seq (wc_if rfl (fun e39 => ?_) (fun e39 => ?_))
     ·
      refine wc_skip (then_normal ?_)
      rw [upto_lt (by have := of_decide_eq_true e39; omega)] at hs
      generalize hnx38 : upto (wandererlaw_PlaceSays_b7 a d y31 y3 y9) (wandererlaw_PlaceSays_k8 y31 y3 y9) (i35 + 1) (((a.length : Int)).toNat - (k34 + 1)) = nx38 at hs
      have e40r : I64 (i35 + 1) := (by have := of_decide_eq_true e39; have := hli35; exact I64.mk (by omega) (by omega))
      refine wc_seq (wc_block (wc_seq (wc_region (wl_ok (r_move (v := (.int .i64 (i35))) rfl) (wl_ok (r_assign (v := (.int .i64 (i35))) rfl) (wl_nil (then_normal (wc_seq (wc_region (wl_ok (r_move (v := (.func (.func 58) #[] #[(.pointer (some ⟨b2, 0, none⟩))])) rfl) (wl_ok (r_move (v := va) rfl) (wl_ok (r_move (v := (.int .i64 (i35))) rfl) ?_))))))))))))
      obtain ⟨x41, e42, hs⟩ := o_bind hs
      obtain ⟨b44, o45, cs46, h, r47, i43⟩ := h.ixS 1 9 rfl SliceOf59 rfl (o_idx e42).1 (o_idx e42).2
      obtain ⟨u48, rfl, g49⟩ := rCo_open r47
      replace h := h.knowRd 10 g49.up
      refine wl_ok (i43 _ _ _ _ _ _ _ _ _ rfl rfl) (wl_ok (r_ldPN (k := 0) (vs := [(.int .i64 (x41.id_)), (.int .i64 (x41.epoch)), u48, (.int .i64 (x41.offered))]) h 9 rfl Many66 rfl rfl rfl (Nat.le_of_ble_eq_true rfl)) (w_callIn (args := [(.agg #[(.int .i64 (x41.id_)), (.int .i64 (x41.epoch)), u48, (.int .i64 (x41.offered))]), (.pointer (some ⟨b2, 0, none⟩))]) fnOk58 rfl rfl (calls_start (args := [(.agg #[(.int .i64 (x41.id_)), (.int .i64 (x41.epoch)), u48, (.int .i64 (x41.offered))]), (.pointer (some ⟨b2, 0, none⟩))]) Try.func58 rfl Try.ntmps58 (Nat.le_of_ble_eq_true rfl) (wc_seq (wc_region (w_box (cs := [(.int .i64 (x41.id_)), (.int .i64 (x41.epoch)), u48, (.int .i64 (x41.offered))]) h 11 rfl rfl fun w b50 h => wl_ok (r_assign (v := (.bool (false))) rfl) (wl_nil (then_normal (wc_seq (wc_region (wl_ok (r_fieldAddr Fld66x0 rfl) (wl_ok (r_ldB h 11 rfl One3 rfl rfl) (wl_ok (r_ldB h 6 rfl One3 rfl rfl) (wl_ok (r_eql rfl rfl) (wl_ok (r_assign (v := (.bool (decide ((x41.id_ : Int) = d)))) rfl) (wl_nil (then_normal (wc_ret (fin1 (v := (.bool (decide ((x41.id_ : Int) = d)))) Try.results58 rfl (⟨_, rfl, ?_⟩))))))))))))))))))))
      refine wl_nil (then_normal (wc_ifb hs rfl (fun c51 hs => ?_) (fun c51 hs => ?_)))
      ·
       refine wc_seq (wc_region (wl_ok (r_move (v := (.int .i64 (i35))) rfl) (wl_ok (r_assign (v := (.int .i64 (i35))) rfl) (wl_nil (then_normal (wc_ret (inBlock_ret (then_ret (then_ret (inBlock_ret (then_ret (fin1 (v := (.int .i64 (i35))) Try.results57 rfl (⟨_, rfl, ?_⟩)))))))))))))
       refine wl_on rfl (congrArg Value.bool c30) (wl_ok (r_eql rfl rfl) (wl_ok (r_pick (b := true) (v := (.bool (decide ((y31 : Int) = i35)))) (congrArg Value.bool c30) rfl) (wl_ok (r_move (v := (.bool (decide ((y31 : Int) = i35)))) rfl) (wl_gd0 rfl rfl (fun q => r_move (v := (.int .i64 (y3.2))) rfl) (wl_gd0 rfl rfl (fun q => r_move (v := (.int .i64 (y9.2))) rfl) (wl_gd0 rfl rfl (fun q => r_eql (gvt q) (gvt q)) (wl_ok (r_pand rfl rfl evc) (wl_ok (r_move (v := (.bool ((decide ((y31 : Int) = i35) && decide ((y3.2 : Int) = y9.2))))) rfl) (c_split (b := (decide ((y31 : Int) = i35) && decide ((y3.2 : Int) = y9.2))) hs (fun c52 hs => ?_) (fun c52 hs => ?_))))))))))
       ·
        refine wl_on rfl (congrArg Value.bool c52) (wl_ok (r_move (v := u5) rfl) (wl_on rfl (congrArg Value.bool c52) (wl_ok (r_move (v := u11) rfl) (wl_on rfl (congrArg Value.bool c52) ?_))))
        obtain ⟨y53, e54, hs⟩ := o_bind hs
        refine w_call fnOk56 rfl rfl (wandererref_SameCos_c _ _ h.lt u5 y3.1 (h.ownS 7 rfl) u11 y9.1 (h.ownS 8 rfl) _ e54) ?_
        rintro _ w ⟨k55, rfl⟩
        refine ⟨_, rfl, ?_⟩
        replace h := h.grow k55
        refine wl_ok (r_pick (b := true) (v := (.bool (y53))) (congrArg Value.bool c52) rfl) (wl_ok (r_assign (v := (.bool (y53))) rfl) (wl_nil (then_normal (wc_ret (fin1 (v := (.bool (y53))) Try.results12 rfl ?_)))))
        obtain rfl := Option.some.inj hs
        exact ⟨h.grown, rfl⟩
       ·
        refine wl_off (b' := false) rfl (congrArg Value.bool c52) rfl (wl_off (b' := false) rfl (congrArg Value.bool c52) rfl (wl_off (b' := false) rfl (congrArg Value.bool c52) rfl (wl_ok (r_pick (b := false) (v := (.bool (false))) (congrArg Value.bool c52) rfl) (wl_ok (r_assign (v := (.bool (false))) rfl) (wl_nil (then_normal (wc_ret (fin1 (v := (.bool (false))) Try.results12 rfl ?_))))))))
        obtain rfl := Option.some.inj hs
        exact ⟨h.grown, rfl⟩
      ·
       refine wc_skip (inBlock_normal (then_normal (wc_region (wl_ok (r_add rfl rfl e40r) (wl_ok (r_move (v := (.int .i64 ((i35 + 1)))) rfl) (wl_nil (then_loop ?_)))))))
       subst hnx38
       exact lend ⟨k34 + 1, i35 + 1⟩ ⟨h.cn _, by omega, hs⟩ (by have := of_decide_eq_true e39; dsimp only; omega)
     ·
      rw [upto_ge (by have := of_decide_eq_false e39; omega)] at hs
      refine wc_exit (then_exit (then_exit (inBlock_eq (then_normal (wc_seq (wc_region (wl_ok (r_assign (v := (.int .i64 (-1))) rfl) (wl_nil (then_normal (wc_ret (fin1 (v := (.int .i64 (-1))) Try.results57 rfl (⟨_, rfl, ?_⟩))))))))))))
      refine wl_on rfl (congrArg Value.bool c30) (wl_ok (r_eql rfl rfl) (wl_ok (r_pick (b := true) (v := (.bool (decide ((y31 : Int) = -1)))) (congrArg Value.bool c30) rfl) (wl_ok (r_move (v := (.bool (decide ((y31 : Int) = -1)))) rfl) (wl_gd0 rfl rfl (fun q => r_move (v := (.int .i64 (y3.2))) rfl) (wl_gd0 rfl rfl (fun q => r_move (v := (.int .i64 (y9.2))) rfl) (wl_gd0 rfl rfl (fun q => r_eql (gvt q) (gvt q)) (wl_ok (r_pand rfl rfl evc) (wl_ok (r_move (v := (.bool ((decide ((y31 : Int) = -1) && decide ((y3.2 : Int) = y9.2))))) rfl) (c_split (b := (decide ((y31 : Int) = -1) && decide ((y3.2 : Int) = y9.2))) hs (fun c56 hs => ?_) (fun c56 hs => ?_))))))))))
      ·
       refine wl_on rfl (congrArg Value.bool c56) (wl_ok (r_move (v := u5) rfl) (wl_on rfl (congrArg Value.bool c56) (wl_ok (r_move (v := u11) rfl) (wl_on rfl (congrArg Value.bool c56) ?_))))
       obtain ⟨y57, e58, hs⟩ := o_bind hs
       refine w_call fnOk56 rfl rfl (wandererref_SameCos_c _ _ h.lt u5 y3.1 (h.ownS 7 rfl) u11 y9.1 (h.ownS 8 rfl) _ e58) ?_
       rintro _ w ⟨k59, rfl⟩
       refine ⟨_, rfl, ?_⟩
       replace h := h.grow k59
       refine wl_ok (r_pick (b := true) (v := (.bool (y57))) (congrArg Value.bool c56) rfl) (wl_ok (r_assign (v := (.bool (y57))) rfl) (wl_nil (then_normal (wc_ret (fin1 (v := (.bool (y57))) Try.results12 rfl ?_)))))
       obtain rfl := Option.some.inj hs
       exact ⟨h.grown, rfl⟩
      ·
       refine wl_off (b' := false) rfl (congrArg Value.bool c56) rfl (wl_off (b' := false) rfl (congrArg Value.bool c56) rfl (wl_off (b' := false) rfl (congrArg Value.bool c56) rfl (wl_ok (r_pick (b := false) (v := (.bool (false))) (congrArg Value.bool c56) rfl) (wl_ok (r_assign (v := (.bool (false))) rfl) (wl_nil (then_normal (wc_ret (fin1 (v := (.bool (false))) Try.results12 rfl ?_))))))))
       obtain rfl := Option.some.inj hs
       exact ⟨h.grown, rfl⟩
   ·
    refine wl_off (b' := false) rfl (congrArg Value.bool c30) rfl (wl_off (b' := false) rfl (congrArg Value.bool c30) rfl (wl_off (b' := false) rfl (congrArg Value.bool c30) rfl (wl_off (b' := false) rfl (congrArg Value.bool c30) rfl (wl_off (b' := false) rfl (congrArg Value.bool c30) rfl (wl_off (b' := false) rfl (congrArg Value.bool c30) rfl (wl_off (b' := false) rfl (congrArg Value.bool c30) rfl (wl_ok (r_pick (b := false) (v := (.bool (false))) (congrArg Value.bool c30) rfl) (wl_ok (r_move (v := (.bool (false))) rfl) (wl_off (b' := false) rfl rfl rfl (wl_off (b' := false) rfl rfl rfl (wl_off (b' := false) rfl rfl rfl (wl_ok (r_pick (b := false) (v := (.bool (false))) rfl rfl) (wl_ok (r_move (v := (.bool (false))) rfl) (wl_off (b' := false) rfl rfl rfl (wl_off (b' := false) rfl rfl rfl (wl_off (b' := false) rfl rfl rfl (wl_ok (r_pick (b := false) (v := (.bool (false))) rfl rfl) (wl_ok (r_assign (v := (.bool (false))) rfl) (wl_nil (then_normal (wc_ret (fin1 (v := (.bool (false))) Try.results12 rfl ?_))))))))))))))))))))))
    obtain rfl := Option.some.inj hs
    exact ⟨h.grown, rfl⟩
  ·
   refine wl_off (b' := false) rfl (congrArg Value.bool c23) rfl (wl_off (b' := false) rfl (congrArg Value.bool c23) rfl (wl_off (b' := false) rfl (congrArg Value.bool c23) rfl (wl_off (b' := false) rfl (congrArg Value.bool c23) rfl (wl_off (b' := false) rfl (congrArg Value.bool c23) rfl (wl_off (b' := false) rfl (congrArg Value.bool c23) rfl (wl_off (b' := false) rfl (congrArg Value.bool c23) rfl (wl_ok (r_pick (b := false) (v := (.bool (false))) (congrArg Value.bool c23) rfl) (wl_ok (r_move (v := (.bool (false))) rfl) (wl_off (b' := false) rfl rfl rfl (wl_off (b' := false) rfl rfl rfl (wl_off (b' := false) rfl rfl rfl (wl_off (b' := false) rfl rfl rfl (wl_off (b' := false) rfl rfl rfl (wl_off (b' := false) rfl rfl rfl (wl_off (b' := false) rfl rfl rfl (wl_ok (r_pick (b := false) (v := (.bool (false))) rfl rfl) (wl_ok (r_move (v := (.bool (false))) rfl) (wl_off (b' := false) rfl rfl rfl (wl_off (b' := false) rfl rfl rfl (wl_off (b' := false) rfl rfl rfl (wl_ok (r_pick (b := false) (v := (.bool (false))) rfl rfl) (wl_ok (r_move (v := (.bool (false))) rfl) (wl_off (b' := false) rfl rfl rfl ?_)))))))))))))))))))))))
   refine wl_off (b' := false) rfl rfl rfl (wl_off (b' := false) rfl rfl rfl (wl_ok (r_pick (b := false) (v := (.bool (false))) rfl rfl) (wl_ok (r_assign (v := (.bool (false))) rfl) (wl_nil (then_normal (wc_ret (fin1 (v := (.bool (false))) Try.results12 rfl ?_)))))))
   obtain rfl := Option.some.inj hs
   exact ⟨h.grown, rfl⟩
 ·
  refine wl_off (b' := false) rfl (congrArg Value.bool c18) rfl (wl_off (b' := false) rfl (congrArg Value.bool c18) rfl (wl_off (b' := false) rfl (congrArg Value.bool c18) rfl (wl_off (b' := false) rfl (congrArg Value.bool c18) rfl (wl_off (b' := false) rfl (congrArg Value.bool c18) rfl (wl_ok (r_pick (b := false) (v := (.bool (false))) (congrArg Value.bool c18) rfl) (wl_ok (r_move (v := (.bool (false))) rfl) (wl_off (b' := false) rfl rfl rfl (wl_off (b' := false) rfl rfl rfl (wl_off (b' := false) rfl rfl rfl (wl_off (b' := false) rfl rfl rfl (wl_off (b' := false) rfl rfl rfl (wl_off (b' := false) rfl rfl rfl (wl_off (b' := false) rfl rfl rfl (wl_ok (r_pick (b := false) (v := (.bool (false))) rfl rfl) (wl_ok (r_move (v := (.bool (false))) rfl) (wl_off (b' := false) rfl rfl rfl (wl_off (b' := false) rfl rfl rfl (wl_off (b' := false) rfl rfl rfl (wl_off (b' := false) rfl rfl rfl (wl_off (b' := false) rfl rfl rfl (wl_off (b' := false) rfl rfl rfl (wl_off (b' := false) rfl rfl rfl (wl_ok (r_pick (b := false) (v := (.bool (false))) rfl rfl) ?_)))))))))))))))))))))))
  refine wl_ok (r_move (v := (.bool (false))) rfl) (wl_off (b' := false) rfl rfl rfl (wl_off (b' := false) rfl rfl rfl (wl_off (b' := false) rfl rfl rfl (wl_ok (r_pick (b := false) (v := (.bool (false))) rfl rfl) (wl_ok (r_move (v := (.bool (false))) rfl) (wl_off (b' := false) rfl rfl rfl (wl_off (b' := false) rfl rfl rfl (wl_off (b' := false) rfl rfl rfl (wl_ok (r_pick (b := false) (v := (.bool (false))) rfl rfl) (wl_ok (r_assign (v := (.bool (false))) rfl) (wl_nil (then_normal (wc_ret (fin1 (v := (.bool (false))) Try.results12 rfl ?_))))))))))))))
  obtain rfl := Option.some.inj hs
  exact ⟨h.grown, rfl⟩
def place_Replay_b3 (N : Nat) (x12 : Rec) (x9 : List Co) (nx14 : List Co → Option (List Co × Int)) : Option (List Co × Int) :=
  (place_Next N x9 x12).bind fun y27 => bif decide ((y27.2 : Int) ≠ 0) then some ([], y27.2) else nx14 y27.1
def place_Replay_k4 (x9 : List Co) : Option (List Co × Int) :=
  some (x9, 0)
def place_Replay (N : Nat) (a : List Rec) : Option (List Co × Int) :=
  bif decide ((120 : Int) < (a.length : Int)) then some ([], 2) else each (place_Replay_b3 N) place_Replay_k4 a []
theorem place_Replay_c (N : Nat) (w0 : World) (M : BS) (hM : ∀ b, M b → b < w0.heap.size) (va : Value) (a : List Rec) (ha : Rd2 rRec w0 BE M va a) (r : List Co × Int) (hs : place_Replay N a = some r) :
    Calls Try.prog 59 #[va] w0 (fun e w' => Grow w0 w' ∧ ∃ u0, e = .returned (.tuple #[u0, .int .i64 r.2]) ∧ OwnSl rCo 66 w' M u0 r.1 ∧ (∀ b, ob u0 b → w0.heap.size ≤ b)) := by
 refine calls_start (args := [va]) Try.func59 rfl Try.ntmps59 (Nat.le_of_ble_eq_true rfl) ?_
 have h := SH.init hM
 replace h := h.argSr 1 ha none_own
 have hl_a := ha.len_le
 refine wc_seq (wc_region (wl_ok (r_assign (v := (.slice none 0 0)) rfl) (wl_ok (r_assign (v := (.int .i64 (0))) rfl) (wl_nil (then_normal (wc_seq (wc_seq (wc_region (wl_ok (r_move (v := va) rfl) (wl_ok (r_len SliceOf89 rfl (h.srS 1 rfl)) (wl_ok (r_gtr rfl rfl) (wl_nil (then_normal (wc_ifb hs rfl (fun c1 hs => ?_) (fun c1 hs => ?_)))))))))))))))
 ·
  refine wc_seq (wc_region (wl_ok (r_assign (v := (.slice none 0 0)) rfl) (wl_ok (r_assign (v := (.int .i64 (2))) rfl) (wl_nil (then_normal (wc_ret (then_ret (fin2 (v1 := (.slice none 0 0)) (v2 := (.int .i64 (2))) Try.results59 rfl rfl ?_))))))))
  obtain rfl := Option.some.inj hs
  exact ⟨h.grown, _, rfl, OwnSl.nil, fresh_nil⟩
 ·
  refine wc_skip (then_normal (wc_seq (wc_region (wl_ok (r_assign (v := (.slice none 0 0)) rfl) (wl_nil (then_normal (wc_seq (wc_seq (wc_region (wl_ok (r_move (v := va) rfl) (wl_ok (r_len SliceOf89 rfl (h.srS 1 rfl)) (wl_ok (r_move (v := (.int .i64 (0))) rfl) (wl_nil (then_normal (wc_block ?_)))))))))))))))
  replace h := h.nilO (R := rCo) (E := 66) 5
  refine wc_lp (σ := Nat × Int × Value × List Co) (inl [2, 3, 4, 6, 7, 13, 14, 15, 16, 17, 18, 19, 20, 21, 22, 23, 24, 25, 26]) (fun ⟨k10, i11, v8, x9⟩ => [(4, v8), (13, (.int .i64 (i11)))]) (fun ⟨k10, i11, v8, x9⟩ w => SH w0 M BE w (hset [(1, .sr rRec va a), (5, .own rCo 66 v8 x9)]) ∧ i11 = (k10 : Int) ∧ each (place_Replay_b3 N) place_Replay_k4 (a.drop k10) x9 = some r) (fun ⟨k10, i11, v8, x9⟩ => a.length - k10) ⟨0, 0, (.slice none 0 0), []⟩ ⟨rfl, rfl, trivial⟩ ?_ ?_
  ·
   exact ⟨h.cn _, rfl, hs⟩
  ·
   rintro ⟨k10, i11, v8, x9⟩ w junk ⟨h, hik, hs⟩
   refine wc_seq (wc_region ?_)
   refine wl_ok (r_lss rfl rfl) (wl_nil (then_normal ?_))
   refine wc_seq (wc_if rfl (fun e15 => ?_) (fun e15 => ?_))
   ·
    refine wc_skip (then_normal ?_)
    obtain ⟨x12, e16a, e16b⟩ := drop_lt (hik ▸ e15)
    rw [e16b, each_cons] at hs
    generalize hnx14 : each (place_Replay_b3 N) place_Replay_k4 (a.drop (k10 + 1)) = nx14 at hs
    have e16r := nat_rng ((h.srS 1 rfl)).len_le hik e15
    refine wc_seq (wc_block (wc_seq (wc_region ?_)))
    obtain ⟨b18, o19, cs20, h, r21, i17⟩ := h.ixS 1 6 rfl SliceOf89 rfl (nat_nn hik) (get_nat hik e16a)
    obtain ⟨u22, u24, rfl, g23, g25⟩ := rRec_open r21
    replace h := h.knowRd 7 g23.up
    replace h := h.knowRd 8 g25.up.up
    refine wl_ok (i17 _ _ _ _ _ _ _ _ _ rfl rfl) (wl_ok (r_ldPN (k := 0) (vs := [(.int .i64 (x12.kind)), (.int .i64 (x12.co)), (.int .i64 (x12.epoch)), (.int .i64 (x12.place)), u22, u24]) h 6 rfl Many61 rfl rfl rfl (Nat.le_of_ble_eq_true rfl)) (w_allocN h 9 Many61 fun w b26 h => w_stN (vs := [(.int .i64 (x12.kind)), (.int .i64 (x12.co)), (.int .i64 (x12.epoch)), (.int .i64 (x12.place)), u22, u24]) h 9 [(.int .i64 (x12.kind)), (.int .i64 (x12.co)), (.int .i64 (x12.epoch)), (.int .i64 (x12.place)), u22, u24] rfl Many61 rfl rfl rfl rfl rfl (ones_cons rfl (ones_cons rfl (ones_cons rfl (ones_cons rfl (ones_cons (h.rdAt 7 rfl).one (ones_cons (h.rdAt 8 rfl).one ones_nil)))))) fun w h => wl_nil (then_normal (wc_seq (wc_region (wl_ok (r_assign (v := (.int .i64 (0))) rfl) (wl_nil (then_normal (wc_seq (wc_region (wl_ok (r_move (v := v8) rfl) (wl_ok (r_ldBN (vs := [(.int .i64 (x12.kind)), (.int .i64 (x12.co)), (.int .i64 (x12.epoch)), (.int .i64 (x12.place)), u22, u24]) h 9 rfl Many61 rfl rfl rfl) ?_))))))))))))
    obtain ⟨y27, e28, hs⟩ := o_bind hs
    refine w_call fnOk38 rfl rfl (place_Next_c N _ _ h.lt v8 x9 (h.ownS 5 rfl) x12 u22 u24 (h.rdS 7 rfl) (h.rdS 8 rfl) _ e28) ?_
    rintro _ w ⟨k32, u29, rfl, g30, g31⟩
    refine ⟨_, rfl, ?_⟩
    replace h := h.gotOwn 10 k32 g30 g31
    refine wl_ok (r_move (v := (.tuple #[u29, (.int .i64 (y27.2))])) rfl) (wl_ok (r_extract rfl rfl) (wl_ok (r_extract rfl rfl) (wl_ok (r_assign (v := u29) rfl) (wl_ok (r_assign (v := (.int .i64 (y27.2))) rfl) (wl_nil (then_normal (wc_seq (wc_region (wl_ok (r_move (v := (.int .i64 (y27.2))) rfl) (wl_ok (r_neq rfl rfl) (wl_nil (then_normal (wc_ifb hs rfl (fun c33 hs => ?_) (fun c33 hs => ?_))))))))))))))
    ·
     refine wc_seq (wc_region (wl_ok (r_move (v := (.int .i64 (y27.2))) rfl) (wl_ok (r_assign (v := (.slice none 0 0)) rfl) (wl_ok (r_assign (v := (.int .i64 (y27.2))) rfl) (wl_nil (then_normal (wc_ret (inBlock_ret (then_ret (then_ret (inBlock_ret (then_ret (fin2 (v1 := (.slice none 0 0)) (v2 := (.int .i64 (y27.2))) Try.results59 rfl rfl ?_)))))))))))))
     obtain rfl := Option.some.inj hs
     exact ⟨h.grown, _, rfl, OwnSl.nil, fresh_nil⟩
    ·
     refine wc_skip (inBlock_normal (then_normal (wc_region (wl_ok (r_add rfl rfl e16r) (wl_ok (r_move (v := (.int .i64 ((i11 + 1)))) rfl) (wl_nil (then_loop ?_)))))))
     replace h := (h.dropC 5).moveO 10 5 rfl rfl (by decide)
     subst hnx14
     exact lend ⟨k10 + 1, i11 + 1, u29, y27.1⟩ ⟨h.cn _, by omega, hs⟩ (by have := of_decide_eq_true e15; dsimp only; omega)
   ·
    rw [drop_ge (hik ▸ e15), each_nil] at hs
    refine wc_exit (then_exit (then_exit (inBlock_eq (then_normal (wc_seq (wc_region (wl_ok (r_move (v := v8) rfl) (wl_ok (r_assign (v := v8) rfl) (wl_ok (r_assign (v := (.int .i64 (0))) rfl) (wl_nil (then_normal (wc_ret (fin2 (v1 := v8) (v2 := (.int .i64 (0))) Try.results59 rfl rfl ?_)))))))))))))
    obtain rfl := Option.some.inj hs
    exact ⟨h.grown, _, rfl, (h.outOwn 5 rfl).1, (h.outOwn 5 rfl).2⟩
def wandererref_Replayed_b3 (x12 : Rec) (x9 : List Co) (nx14 : List Co → Option (List Co × Int)) : Option (List Co × Int) :=
  (wandererref_Nexted x9 x12).bind fun y27 => bif decide ((y27.2 : Int) ≠ 0) then some ([], y27.2) else nx14 y27.1
def wandererref_Replayed_k4 (x9 : List Co) : Option (List Co × Int) :=
  some (x9, 0)
def wandererref_Replayed (a : List Rec) : Option (List Co × Int) :=
  bif decide ((120 : Int) < (a.length : Int)) then some ([], 2) else each wandererref_Replayed_b3 wandererref_Replayed_k4 a []
theorem wandererref_Replayed_c (w0 : World) (M : BS) (hM : ∀ b, M b → b < w0.heap.size) (va : Value) (a : List Rec) (ha : Rd2 rRec w0 BE M va a) (r : List Co × Int) (hs : wandererref_Replayed a = some r) :
    Calls Try.prog 60 #[va] w0 (fun e w' => Grow w0 w' ∧ ∃ u0, e = .returned (.tuple #[u0, .int .i64 r.2]) ∧ OwnSl rCo 66 w' M u0 r.1 ∧ (∀ b, ob u0 b → w0.heap.size ≤ b)) := by
 refine calls_start (args := [va]) Try.func60 rfl Try.ntmps60 (Nat.le_of_ble_eq_true rfl) ?_
 have h := SH.init hM
 replace h := h.argSr 1 ha none_own
 have hl_a := ha.len_le
 refine wc_seq (wc_region (wl_ok (r_assign (v := (.slice none 0 0)) rfl) (wl_ok (r_assign (v := (.int .i64 (0))) rfl) (wl_nil (then_normal (wc_seq (wc_seq (wc_region (wl_ok (r_move (v := va) rfl) (wl_ok (r_len SliceOf89 rfl (h.srS 1 rfl)) (wl_ok (r_gtr rfl rfl) (wl_nil (then_normal (wc_ifb hs rfl (fun c1 hs => ?_) (fun c1 hs => ?_)))))))))))))))
 ·
  refine wc_seq (wc_region (wl_ok (r_assign (v := (.slice none 0 0)) rfl) (wl_ok (r_assign (v := (.int .i64 (2))) rfl) (wl_nil (then_normal (wc_ret (then_ret (fin2 (v1 := (.slice none 0 0)) (v2 := (.int .i64 (2))) Try.results60 rfl rfl ?_))))))))
  obtain rfl := Option.some.inj hs
  exact ⟨h.grown, _, rfl, OwnSl.nil, fresh_nil⟩
 ·
  refine wc_skip (then_normal (wc_seq (wc_region (wl_ok (r_assign (v := (.slice none 0 0)) rfl) (wl_nil (then_normal (wc_seq (wc_seq (wc_region (wl_ok (r_move (v := va) rfl) (wl_ok (r_len SliceOf89 rfl (h.srS 1 rfl)) (wl_ok (r_move (v := (.int .i64 (0))) rfl) (wl_nil (then_normal (wc_block ?_)))))))))))))))
  replace h := h.nilO (R := rCo) (E := 66) 5
  refine wc_lp (σ := Nat × Int × Value × List Co) (inl [2, 3, 4, 6, 7, 8, 14, 15, 16, 17, 18, 19, 20, 21, 22, 23, 24, 25, 26, 27, 28]) (fun ⟨k10, i11, v8, x9⟩ => [(4, v8), (14, (.int .i64 (i11)))]) (fun ⟨k10, i11, v8, x9⟩ w => SH w0 M BE w (hset [(1, .sr rRec va a), (5, .own rCo 66 v8 x9)]) ∧ i11 = (k10 : Int) ∧ each wandererref_Replayed_b3 wandererref_Replayed_k4 (a.drop k10) x9 = some r) (fun ⟨k10, i11, v8, x9⟩ => a.length - k10) ⟨0, 0, (.slice none 0 0), []⟩ ⟨rfl, rfl, trivial⟩ ?_ ?_
  ·
   exact ⟨h.cn _, rfl, hs⟩
  ·
   rintro ⟨k10, i11, v8, x9⟩ w junk ⟨h, hik, hs⟩
   refine wc_seq (wc_region ?_)
   refine wl_ok (r_lss rfl rfl) (wl_nil (then_normal ?_))
   refine wc_seq (wc_if rfl (fun e15 => ?_) (fun e15 => ?_))
   ·
    refine wc_skip (then_normal ?_)
    obtain ⟨x12, e16a, e16b⟩ := drop_lt (hik ▸ e15)
    rw [e16b, each_cons] at hs
    generalize hnx14 : each wandererref_Replayed_b3 wandererref_Replayed_k4 (a.drop (k10 + 1)) = nx14 at hs
    have e16r := nat_rng ((h.srS 1 rfl)).len_le hik e15
    refine wc_seq (wc_block (wc_seq (wc_region ?_)))
    obtain ⟨b18, o19, cs20, h, r21, i17⟩ := h.ixS 1 6 rfl SliceOf89 rfl (nat_nn hik) (get_nat hik e16a)
    obtain ⟨u22, u24, rfl, g23, g25⟩ := rRec_open r21
    replace h := h.knowRd 7 g23.up
    replace h := h.knowRd 8 g25.up.up
    refine wl_ok (i17 _ _ _ _ _ _ _ _ _ rfl rfl) (wl_ok (r_ldPN (k := 0) (vs := [(.int .i64 (x12.kind)), (.int .i64 (x12.co)), (.int .i64 (x12.epoch)), (.int .i64 (x12.place)), u22, u24]) h 6 rfl Many61 rfl rfl rfl (Nat.le_of_ble_eq_true rfl)) (w_allocN h 9 Many61 fun w b26 h => w_stN (vs := [(.int .i64 (x12.kind)), (.int .i64 (x12.co)), (.int .i64 (x12.epoch)), (.int .i64 (x12.place)), u22, u24]) h 9 [(.int .i64 (x12.kind)), (.int .i64 (x12.co)), (.int .i64 (x12.epoch)), (.int .i64 (x12.place)), u22, u24] rfl Many61 rfl rfl rfl rfl rfl (ones_cons rfl (ones_cons rfl (ones_cons rfl (ones_cons rfl (ones_cons (h.rdAt 7 rfl).one (ones_cons (h.rdAt 8 rfl).one ones_nil)))))) fun w h => wl_nil (then_normal (wc_seq (wc_region (wl_ok (r_move (v := v8) rfl) (wl_ok (r_ldBN (vs := [(.int .i64 (x12.kind)), (.int .i64 (x12.co)), (.int .i64 (x12.epoch)), (.int .i64 (x12.place)), u22, u24]) h 9 rfl Many61 rfl rfl rfl) ?_)))))))
    obtain ⟨y27, e28, hs⟩ := o_bind hs
    refine w_call fnOk54 rfl rfl (wandererref_Nexted_c _ _ h.lt v8 x9 (h.ownS 5 rfl) x12 u22 u24 (h.rdS 7 rfl) (h.rdAt 8 rfl) _ e28) ?_
    rintro _ w ⟨k32, u29, rfl, g30, g31⟩
    refine ⟨_, rfl, ?_⟩
    replace h := h.gotOwn 10 k32 g30 g31
    refine wl_ok (r_move (v := (.tuple #[u29, (.int .i64 (y27.2))])) rfl) (wl_ok (r_extract rfl rfl) (wl_ok (r_extract rfl rfl) (wl_ok (r_assign (v := u29) rfl) (wl_ok (r_assign (v := (.int .i64 (y27.2))) rfl) (wl_nil (then_normal (wc_seq (wc_seq (wc_region (wl_ok (r_move (v := (.int .i64 (y27.2))) rfl) (wl_ok (r_neq rfl rfl) (wl_nil (then_normal (wc_ifb hs rfl (fun c33 hs => ?_) (fun c33 hs => ?_)))))))))))))))
    ·
     refine wc_seq (wc_region (wl_ok (r_move (v := (.int .i64 (y27.2))) rfl) (wl_ok (r_assign (v := (.slice none 0 0)) rfl) (wl_ok (r_assign (v := (.int .i64 (y27.2))) rfl) (wl_nil (then_normal (wc_ret (then_ret (inBlock_ret (then_ret (then_ret (inBlock_ret (then_ret (fin2 (v1 := (.slice none 0 0)) (v2 := (.int .i64 (y27.2))) Try.results60 rfl rfl ?_))))))))))))))
     obtain rfl := Option.some.inj hs
     exact ⟨h.grown, _, rfl, OwnSl.nil, fresh_nil⟩
    ·
     refine wc_skip (then_normal (wc_region (wl_ok (r_move (v := u29) rfl) (wl_ok (r_assign (v := u29) rfl) (wl_nil (inBlock_normal (then_normal (wc_region (wl_ok (r_add rfl rfl e16r) (wl_ok (r_move (v := (.int .i64 ((i11 + 1)))) rfl) (wl_nil (then_loop ?_))))))))))))
     replace h := (h.dropC 5).moveO 10 5 rfl rfl (by decide)
     subst hnx14
     exact lend ⟨k10 + 1, i11 + 1, u29, y27.1⟩ ⟨h.cn _, by omega, hs⟩ (by have := of_decide_eq_true e15; dsimp only; omega)
   ·
    rw [drop_ge (hik ▸ e15), each_nil] at hs
    refine wc_exit (then_exit (then_exit (inBlock_eq (then_normal (wc_seq (wc_region (wl_ok (r_move (v := v8) rfl) (wl_ok (r_assign (v := v8) rfl) (wl_ok (r_assign (v := (.int .i64 (0))) rfl) (wl_nil (then_normal (wc_ret (fin2 (v1 := v8) (v2 := (.int .i64 (0))) Try.results60 rfl rfl ?_)))))))))))))
    obtain rfl := Option.some.inj hs
    exact ⟨h.grown, _, rfl, (h.outOwn 5 rfl).1, (h.outOwn 5 rfl).2⟩
def wandererlaw_PlaceReplays (N : Nat) (a : List Rec) : Option Bool :=
  (place_Replay N a).bind fun y1 => (wandererref_Replayed a).bind fun y7 => (wandererlaw_held N).bind fun y13 => bif (y13 && decide ((y1.2 : Int) = y7.2)) then (wandererref_SameCos y1.1 y7.1).bind fun y17 => some y17 else some false
theorem wandererlaw_PlaceReplays_c (N : Nat) (w0 : World) (M : BS) (hM : ∀ b, M b → b < w0.heap.size) (va : Value) (a : List Rec) (ha : Rd2 rRec w0 BE M va a) (r : Bool) (hs : wandererlaw_PlaceReplays N a = some r) :
    Calls Try.prog 13 #[va] w0 (fun e w' => Grow w0 w' ∧ e = .returned (.bool r)) := by
 refine calls_start (args := [va]) Try.func13 rfl Try.ntmps13 (Nat.le_of_ble_eq_true rfl) ?_
 have h := SH.init hM
 replace h := h.argSr 1 ha none_own
 have hl_a := ha.len_le
 refine wc_seq (wc_region (wl_ok (r_assign (v := (.bool (false))) rfl) (wl_nil (then_normal (wc_seq (wc_region (wl_ok (r_move (v := va) rfl) ?_)))))))
 obtain ⟨y1, e2, hs⟩ := o_bind hs
 refine w_call fnOk59 rfl rfl (place_Replay_c N _ _ h.lt va a (h.srS 1 rfl) _ e2) ?_
 rintro _ w ⟨k6, u3, rfl, g4, g5⟩
 refine ⟨_, rfl, ?_⟩
 replace h := h.gotOwn 2 k6 g4 g5
 refine wl_ok (r_move (v := (.tuple #[u3, (.int .i64 (y1.2))])) rfl) (wl_ok (r_extract rfl rfl) (wl_ok (r_extract rfl rfl) (wl_ok (r_assign (v := u3) rfl) (wl_ok (r_assign (v := (.int .i64 (y1.2))) rfl) (wl_nil (then_normal (wc_seq (wc_region (wl_ok (r_move (v := va) rfl) ?_)))))))))
 obtain ⟨y7, e8, hs⟩ := o_bind hs
 refine w_call fnOk60 rfl rfl (wandererref_Replayed_c _ _ h.lt va a (h.srS 1 rfl) _ e8) ?_
 rintro _ w ⟨k12, u9, rfl, g10, g11⟩
 refine ⟨_, rfl, ?_⟩
 replace h := h.gotOwn 3 k12 g10 g11
 refine wl_ok (r_move (v := (.tuple #[u9, (.int .i64 (y7.2))])) rfl) (wl_ok (r_extract rfl rfl) (wl_ok (r_extract rfl rfl) (wl_ok (r_assign (v := u9) rfl) (wl_ok (r_assign (v := (.int .i64 (y7.2))) rfl) (wl_nil (then_normal (wc_seq (wc_region ?_))))))))
 obtain ⟨y13, e14, hs⟩ := o_bind hs
 refine w_call fnOk39 rfl rfl (wandererlaw_held_c N _ _ h.lt  _ e14) ?_
 rintro _ w ⟨k15, rfl⟩
 refine ⟨_, rfl, ?_⟩
 replace h := h.grow k15
 refine wl_ok (r_move (v := (.bool (y13))) rfl) (wl_gd0 rfl rfl (fun q => r_move (v := (.int .i64 (y1.2))) rfl) (wl_gd0 rfl rfl (fun q => r_move (v := (.int .i64 (y7.2))) rfl) (wl_gd0 rfl rfl (fun q => r_eql (gvt q) (gvt q)) (wl_ok (r_pand rfl rfl evc) (wl_ok (r_move (v := (.bool ((y13 && decide ((y1.2 : Int) = y7.2))))) rfl) (c_split (b := (y13 && decide ((y1.2 : Int) = y7.2))) hs (fun c16 hs => ?_) (fun c16 hs => ?_)))))))
 ·
  refine wl_on rfl (congrArg Value.bool c16) (wl_ok (r_move (v := u3) rfl) (wl_on rfl (congrArg Value.bool c16) (wl_ok (r_move (v := u9) rfl) (wl_on rfl (congrArg Value.bool c16) ?_))))
  obtain ⟨y17, e18, hs⟩ := o_bind hs
  refine w_call fnOk56 rfl rfl (wandererref_SameCos_c _ _ h.lt u3 y1.1 (h.ownS 2 rfl) u9 y7.1 (h.ownS 3 rfl) _ e18) ?_
  rintro _ w ⟨k19, rfl⟩
  refine ⟨_, rfl, ?_⟩
  replace h := h.grow k19
  refine wl_ok (r_pick (b := true) (v := (.bool (y17))) (congrArg Value.bool c16) rfl) (wl_ok (r_assign (v := (.bool (y17))) rfl) (wl_nil (then_normal (wc_ret (fin1 (v := (.bool (y17))) Try.results13 rfl ?_)))))
  obtain rfl := Option.some.inj hs
  exact ⟨h.grown, rfl⟩
 ·
  refine wl_off (b' := false) rfl (congrArg Value.bool c16) rfl (wl_off (b' := false) rfl (congrArg Value.bool c16) rfl (wl_off (b' := false) rfl (congrArg Value.bool c16) rfl (wl_ok (r_pick (b := false) (v := (.bool (false))) (congrArg Value.bool c16) rfl) (wl_ok (r_assign (v := (.bool (false))) rfl) (wl_nil (then_normal (wc_ret (fin1 (v := (.bool (false))) Try.results13 rfl ?_))))))))
  obtain rfl := Option.some.inj hs
  exact ⟨h.grown, rfl⟩
end Go.Proofs.Ytkjajililnbimaa
