/-
  What the law VmKeeps needs of our own library and of the walks, no more.
-/
import Derived.Test.YtfclkapelkhlpaaGreatDoorRows
import Derived.Test.YtfclkapelkhlpaaGreatDoorCards
import Derived.Test.YtfclkapelkhlpaaGreatDoorTie
import Derived.WalkKit
import Derived.Laws.StructEq
import Derived.ChangeKeysEq
import Derived.StillTail
import Derived.LoopN
import Derived.Deep.Quiet
import Derived.OrdersHeld
import Derived.Deep.RegionHeld3
import Derived.Deep.Slices
import Derived.MapKept
import Derived.Lib.Bytealg
import Derived.ChangeArms
import Derived.Lib.AppendZeros
import Derived.Lib.Overlaps
import Derived.Laws.CopyRow
import Derived.Shelf.SlSortCmp.SmallK
import Derived.Laws.Pointers
import Derived.Laws.OwnMore
import Derived.Laws.Concat
import Derived.Laws.Strings2
import Derived.Laws.Strings3
import Derived.Laws.IdiomStrings
import Derived.Lib.AppendStr
import Derived.Lib.ConvBytes
import Derived.Lib.LaidTab
import Derived.Lib.ItoaNum
import Derived.WideLaws
import Derived.Lib.SplitLaws
import Derived.Lib.JoinLaws
import Derived.Lib.AtoiAll
import Derived.Lib.ParseIntB
import Derived.Laws.NewFold
import Derived.Lib.Join
import Derived.Lib.Strings
import Derived.Sort.Grow
import Derived.Lib.Space
import Derived.Handed
import Derived.LaidMore
import Derived.LaidHandle
import Derived.Stop.LaidErr
import Derived.Shelf.Vars
import Derived.WideShapes
import Derived.Lib.ParseIntBTie
import Derived.Lib.ItoaLen
import Derived.Lib.AtoiAllCases
import Derived.Shelf.Strings.Builder1
import Derived.Laws.IdiomRangeMap
import Derived.Lib.FieldsLaws
import Derived.KernelRfl
import Derived.Test.YtfclkapelkhlpaaGreatDoorProg
import Derived.Lib.Slices
import Derived.Lib.Walk
import Derived.Shelf.Strings.OnBuilder
import Derived.Shelf.LaysM
import Derived.Shelf.Strconv.Itoa3
import Derived.Shelf.LaysC
import Derived.Shelf.Strconv.AtoiAll
import Derived.Shelf.Strconv.ErrVarAll
import Derived.Shelf.Strings.Split
import Derived.Shelf.Strings.Fields
import Derived.Shelf.Strings.BuilderX
import Derived.ProofKit
import Derived.SevenTiedAt
import Derived.OpenShut
import Derived.ShutString
import Derived.ChangeOld
import Derived.Below
import Derived.Test.YtfclkapelkhlpaaGreatDoorVmKeepsTd
set_option linter.unusedSimpArgs false
set_option linter.unusedVariables false
set_option maxRecDepth 10000
namespace Go.Proofs.YtfclkapelkhlpaaGreatDoor
open Go Go.Proofs Go.LX
noncomputable section
theorem vm_op_c (w0 : World) (M : BS) (hM : ∀ b, M b → b < w0.heap.size) (a : Int) (b : Val) (c : Val) (r : Val × Bool) (hs : vm_op a b c = some r) :
    Calls Tryz.prog 87 #[(.int .i64 (a)), (.agg #[(.int .i64 (b.kind)), (.int .i64 (b.n))]), (.agg #[(.int .i64 (c.kind)), (.int .i64 (c.n))])] w0 (fun e w' => Grow w0 w' ∧ e = .returned (.tuple #[.agg #[.int .i64 r.1.kind, .int .i64 r.1.n], .bool r.2])) := by
 refine calls_start (args := [(.int .i64 (a)), (.agg #[(.int .i64 (b.kind)), (.int .i64 (b.n))]), (.agg #[(.int .i64 (c.kind)), (.int .i64 (c.n))])]) Tryz.func87 rfl Tryz.ntmps87 (Nat.le_of_ble_eq_true rfl) ?_
 have h := SH.init hM
 refine wc_seq (wc_region (w_box (cs := [(.int .i64 (b.kind)), (.int .i64 (b.n))]) h 1 rfl rfl fun w b1 h => w_box (cs := [(.int .i64 (c.kind)), (.int .i64 (c.n))]) h 2 rfl rfl fun w b2 h => w_allocN h 3 Many51 fun w b3 h => wl_ok (r_assign (v := (.bool (false))) rfl) (wl_nil (then_normal (wc_seq (wc_region (wl_ok (r_assign (v := (.func (.func 117) #[] #[])) rfl) (wl_nil (then_normal (wc_seq (wc_seq (wc_region (wl_ok (r_move (v := (.int .i64 (a))) rfl) (wl_ok (r_eql rfl rfl) (wl_nil (then_normal (wc_ifb hs rfl (fun c4 hs => ?_) (fun c4 hs => ?_))))))))))))))))))
 ·
  refine wc_seq (wc_region (wl_ok (r_move (v := (.func (.func 117) #[] #[])) rfl) (wl_ok (r_ldBN (vs := [(.int .i64 (b.kind)), (.int .i64 (b.n))]) h 1 rfl Many51 rfl rfl rfl) (wl_ok (r_ldBN (vs := [(.int .i64 (c.kind)), (.int .i64 (c.n))]) h 2 rfl Many51 rfl rfl rfl) (wl_ok (r_eqlP PairI51 rfl rfl) (w_callIn (args := [(.bool ((decide (b.kind = c.kind) && decide (b.n = c.n))))]) fnOk117 rfl rfl (calls_start (args := [(.bool ((decide (b.kind = c.kind) && decide (b.n = c.n))))]) Tryz.func117 rfl Tryz.ntmps117 (Nat.le_of_ble_eq_true rfl) (wc_seq (wc_region (w_allocN h 4 Many51 fun w b5 h => wl_ok (r_assign (v := (.bool (false))) rfl) (wl_nil (then_normal (wc_seq (wc_seq (wc_region (wl_ok (r_move (v := (.bool ((decide (b.kind = c.kind) && decide (b.n = c.n))))) rfl) (wl_nil (then_normal (wc_ifb hs rfl (fun c6 hs => ?_) (fun c6 hs => ?_))))))))))))))))))))
  ·
   refine wc_seq (wc_region (wl_ok (r_build (pv := [(0, (.int .i64 (1))), (1, (.int .i64 (1)))]) (out := [(.int .i64 (1)), (.int .i64 (1))]) Struct51 rfl ⟨0, 1, [(.int .i64 (1))], rfl, rfl, rfl, Nat.le_of_ble_eq_true rfl, ⟨1, 1, [(.int .i64 (1))], rfl, rfl, rfl, Nat.le_of_ble_eq_true rfl, rfl⟩⟩) (w_stN (vs := [(.int .i64 (1)), (.int .i64 (1))]) h 4 [(.int .i64 (1)), (.int .i64 (1))] rfl Many51 rfl rfl rfl rfl rfl (ones_cons rfl (ones_cons rfl ones_nil)) fun w h => wl_ok (r_assign (v := (.bool (true))) rfl) (wl_nil (then_normal (wc_ret (then_ret (fin_ct (vs := [(.int .i64 (1)), (.int .i64 (1))]) (v2 := (.bool (true))) Tryz.results117 rfl rfl h 4 rfl Many51 rfl (⟨_, rfl, ?_⟩)))))))))
   refine wl_ok (r_extract rfl rfl) (wl_ok (r_extract rfl rfl) (w_stN (vs := [(.int .i64 (1)), (.int .i64 (1))]) h 3 [(.int .i64 (1)), (.int .i64 (1))] rfl Many51 rfl rfl rfl rfl rfl (ones_cons rfl (ones_cons rfl ones_nil)) fun w h => wl_ok (r_assign (v := (.bool (true))) rfl) (wl_nil (then_normal (wc_ret (then_ret (fin_ct (vs := [(.int .i64 (1)), (.int .i64 (1))]) (v2 := (.bool (true))) Tryz.results87 rfl rfl h 3 rfl Many51 rfl ?_)))))))
   obtain rfl := Option.some.inj hs
   exact ⟨h.grown, rfl⟩
  ·
   refine wc_skip (then_normal (wc_seq (wc_region (wl_ok (r_build (pv := [(0, (.int .i64 (1)))]) (out := [(.int .i64 (1)), (.int .i64 (0))]) Struct51 rfl ⟨0, 1, [(.int .i64 (1))], rfl, rfl, rfl, Nat.le_of_ble_eq_true rfl, rfl⟩) (w_stN (vs := [(.int .i64 (1)), (.int .i64 (0))]) h 4 [(.int .i64 (1)), (.int .i64 (0))] rfl Many51 rfl rfl rfl rfl rfl (ones_cons rfl (ones_cons rfl ones_nil)) fun w h => wl_ok (r_assign (v := (.bool (true))) rfl) (wl_nil (then_normal (wc_ret (fin_ct (vs := [(.int .i64 (1)), (.int .i64 (0))]) (v2 := (.bool (true))) Tryz.results117 rfl rfl h 4 rfl Many51 rfl (⟨_, rfl, ?_⟩))))))))))
   refine wl_ok (r_extract rfl rfl) (wl_ok (r_extract rfl rfl) (w_stN (vs := [(.int .i64 (1)), (.int .i64 (0))]) h 3 [(.int .i64 (1)), (.int .i64 (0))] rfl Many51 rfl rfl rfl rfl rfl (ones_cons rfl (ones_cons rfl ones_nil)) fun w h => wl_ok (r_assign (v := (.bool (true))) rfl) (wl_nil (then_normal (wc_ret (then_ret (fin_ct (vs := [(.int .i64 (1)), (.int .i64 (0))]) (v2 := (.bool (true))) Tryz.results87 rfl rfl h 3 rfl Many51 rfl ?_)))))))
   obtain rfl := Option.some.inj hs
   exact ⟨h.grown, rfl⟩
 ·
  refine wc_skip (then_normal (wc_seq (wc_seq (wc_region (wl_ok (r_fieldAddr Fld51x0 rfl) (wl_ok (r_ldB h 1 rfl One3 rfl rfl) (wl_ok (r_neq rfl rfl) (wl_ok (r_move (v := (.bool (decide ((b.kind : Int) ≠ 1)))) rfl) (wl_gd0 rfl rfl (fun q => r_fieldAddr Fld51x0 rfl) (wl_gd0 rfl rfl (fun q => r_ldB h 2 rfl One3 (gvt q) rfl) (wl_gd0 rfl rfl (fun q => r_neq (gvt q) rfl) (wl_ok (r_por rfl rfl evc) (wl_nil (then_normal (wc_ifb hs rfl (fun c7 hs => ?_) (fun c7 hs => ?_))))))))))))))))
  ·
   refine wc_seq (wc_region (wl_ok (r_build (pv := []) (out := [(.int .i64 (0)), (.int .i64 (0))]) Struct51 rfl rfl) (w_stN (vs := [(.int .i64 (0)), (.int .i64 (0))]) h 3 [(.int .i64 (0)), (.int .i64 (0))] rfl Many51 rfl rfl rfl rfl rfl (ones_cons rfl (ones_cons rfl ones_nil)) fun w h => wl_ok (r_assign (v := (.bool (false))) rfl) (wl_nil (then_normal (wc_ret (then_ret (fin_ct (vs := [(.int .i64 (0)), (.int .i64 (0))]) (v2 := (.bool (false))) Tryz.results87 rfl rfl h 3 rfl Many51 rfl ?_))))))))
   obtain rfl := Option.some.inj hs
   exact ⟨h.grown, rfl⟩
  ·
   refine wc_skip (then_normal (wc_seq (wc_region (wl_ok (r_assign (v := (.int .i64 (0))) rfl) (wl_nil (then_normal (wc_join (σ := Int) (inl [7, 9, 28, 29, 30, 31, 32, 33, 34, 35, 36, 37, 38, 39, 40, 41, 42, 43, 44, 45, 46, 47, 48, 49, 50, 51, 52, 53, 54, 55, 56, 57, 58, 59, 60]) (fun x8 => [(9, (.int .i64 (x8)))]) (fun x8 w => SH w0 M BE w (hset [(3, .blk b3 [(.int .i64 (0)), (.int .i64 (0))])]) ∧ vm_op_j1 x8 = some r) ?_ ?_)))))))
   ·
    rintro x8 w junk ⟨h, hs⟩
    refine wc_seq (wc_region (wl_ok (r_move (v := (.int .i64 (x8))) rfl) (wl_ok (r_build (pv := [(0, (.int .i64 (1))), (1, (.int .i64 (x8)))]) (out := [(.int .i64 (1)), (.int .i64 (x8))]) Struct51 rfl ⟨0, 1, [(.int .i64 (1))], rfl, rfl, rfl, Nat.le_of_ble_eq_true rfl, ⟨1, 1, [(.int .i64 (x8))], rfl, rfl, rfl, Nat.le_of_ble_eq_true rfl, rfl⟩⟩) (wl_ok (r_move (v := (.int .i64 (x8))) rfl) (wl_ok (r_geq rfl rfl) (wl_ok (r_move (v := (.bool (decide ((-1000000000 : Int) ≤ x8)))) rfl) (wl_gd0 rfl rfl (fun q => r_move (v := (.int .i64 (x8))) rfl) (wl_gd0 rfl rfl (fun q => r_leq (gvt q) rfl) (wl_ok (r_pand rfl rfl evc) (w_stN (vs := [(.int .i64 (1)), (.int .i64 (x8))]) h 3 [(.int .i64 (1)), (.int .i64 (x8))] rfl Many51 rfl rfl rfl rfl rfl (ones_cons rfl (ones_cons rfl ones_nil)) fun w h => wl_ok (r_assign (v := (.bool ((decide ((-1000000000 : Int) ≤ x8) && decide ((x8 : Int) ≤ 1000000000))))) rfl) (wl_nil (then_normal (wc_ret (fin_ct (vs := [(.int .i64 (1)), (.int .i64 (x8))]) (v2 := (.bool ((decide ((-1000000000 : Int) ≤ x8) && decide ((x8 : Int) ≤ 1000000000))))) Tryz.results87 rfl rfl h 3 rfl Many51 rfl ?_))))))))))))))
    obtain rfl := Option.some.inj hs
    exact ⟨h.grown, rfl⟩
   ·
    refine wc_seq (wc_region (wl_ok (r_move (v := (.int .i64 (a))) rfl) (wl_nil (then_normal (wc_block (wc_seq (wc_region (wl_ok (r_eql rfl rfl) (wl_ok (r_assign (v := (.bool (decide ((a : Int) = 1)))) rfl) (wl_nil (then_normal (wc_ifb hs rfl (fun c9 hs => ?_) (fun c9 hs => ?_)))))))))))))
    ·
     refine wc_region (wl_ok (r_fieldAddr Fld51x1 rfl) (wl_ok (r_ldB h 1 rfl One3 rfl rfl) (wl_ok (r_fieldAddr Fld51x1 rfl) (wl_ok (r_ldB h 2 rfl One3 rfl rfl) ?_))))
     obtain ⟨a10, hs⟩ := o_grd hs
     refine wl_ok (r_add rfl rfl a10) (wl_ok (r_assign (v := (.int .i64 ((b.n + c.n)))) rfl) (wl_nil (inBlock_normal (then_loop ?_))))
     exact jend (b.n + c.n) ⟨h.cn _, hs⟩
    ·
     refine wc_seq (wc_region (wl_ok (r_eql rfl rfl) (wl_ok (r_assign (v := (.bool (decide ((a : Int) = 2)))) rfl) (wl_nil (then_normal (wc_ifb hs rfl (fun c11 hs => ?_) (fun c11 hs => ?_)))))))
     ·
      refine wc_region (wl_ok (r_fieldAddr Fld51x1 rfl) (wl_ok (r_ldB h 1 rfl One3 rfl rfl) (wl_ok (r_fieldAddr Fld51x1 rfl) (wl_ok (r_ldB h 2 rfl One3 rfl rfl) ?_))))
      obtain ⟨a12, hs⟩ := o_grd hs
      refine wl_ok (r_sub rfl rfl a12) (wl_ok (r_assign (v := (.int .i64 ((b.n - c.n)))) rfl) (wl_nil (inBlock_normal (then_loop ?_))))
      exact jend (b.n - c.n) ⟨h.cn _, hs⟩
     ·
      refine wc_seq (wc_region (wl_ok (r_eql rfl rfl) (wl_ok (r_assign (v := (.bool (decide ((a : Int) = 3)))) rfl) (wl_nil (then_normal (wc_ifb hs rfl (fun c13 hs => ?_) (fun c13 hs => ?_)))))))
      ·
       refine wc_region (wl_ok (r_fieldAddr Fld51x1 rfl) (wl_ok (r_ldB h 1 rfl One3 rfl rfl) (wl_ok (r_fieldAddr Fld51x1 rfl) (wl_ok (r_ldB h 2 rfl One3 rfl rfl) ?_))))
       obtain ⟨a14, hs⟩ := o_grd hs
       refine wl_ok (r_mul rfl rfl a14) (wl_ok (r_assign (v := (.int .i64 ((b.n * c.n)))) rfl) (wl_nil (inBlock_normal (then_loop ?_))))
       exact jend (b.n * c.n) ⟨h.cn _, hs⟩
      ·
       refine wc_seq (wc_region (wl_ok (r_eql rfl rfl) (wl_ok (r_assign (v := (.bool (decide ((a : Int) = 4)))) rfl) (wl_nil (then_normal (wc_ifb hs rfl (fun c15 hs => ?_) (fun c15 hs => ?_)))))))
       ·
        refine wc_seq (wc_region (wl_ok (r_move (v := (.func (.func 117) #[] #[])) rfl) (wl_ok (r_fieldAddr Fld51x1 rfl) (wl_ok (r_ldB h 1 rfl One3 rfl rfl) (wl_ok (r_fieldAddr Fld51x1 rfl) (wl_ok (r_ldB h 2 rfl One3 rfl rfl) (wl_ok (r_lss rfl rfl) (w_callIn (args := [(.bool (decide ((b.n : Int) < c.n)))]) fnOk117 rfl rfl (calls_start (args := [(.bool (decide ((b.n : Int) < c.n)))]) Tryz.func117 rfl Tryz.ntmps117 (Nat.le_of_ble_eq_true rfl) (wc_seq (wc_region (w_allocN h 5 Many51 fun w b16 h => wl_ok (r_assign (v := (.bool (false))) rfl) (wl_nil (then_normal (wc_seq (wc_seq (wc_region (wl_ok (r_move (v := (.bool (decide ((b.n : Int) < c.n)))) rfl) (wl_nil (then_normal (wc_ifb hs rfl (fun c17 hs => ?_) (fun c17 hs => ?_))))))))))))))))))))))
        ·
         refine wc_seq (wc_region (wl_ok (r_build (pv := [(0, (.int .i64 (1))), (1, (.int .i64 (1)))]) (out := [(.int .i64 (1)), (.int .i64 (1))]) Struct51 rfl ⟨0, 1, [(.int .i64 (1))], rfl, rfl, rfl, Nat.le_of_ble_eq_true rfl, ⟨1, 1, [(.int .i64 (1))], rfl, rfl, rfl, Nat.le_of_ble_eq_true rfl, rfl⟩⟩) (w_stN (vs := [(.int .i64 (1)), (.int .i64 (1))]) h 5 [(.int .i64 (1)), (.int .i64 (1))] rfl Many51 rfl rfl rfl rfl rfl (ones_cons rfl (ones_cons rfl ones_nil)) fun w h => wl_ok (r_assign (v := (.bool (true))) rfl) (wl_nil (then_normal (wc_ret (then_ret (fin_ct (vs := [(.int .i64 (1)), (.int .i64 (1))]) (v2 := (.bool (true))) Tryz.results117 rfl rfl h 5 rfl Many51 rfl (⟨_, rfl, ?_⟩)))))))))
         refine wl_ok (r_extract rfl rfl) (wl_ok (r_extract rfl rfl) (w_stN (vs := [(.int .i64 (1)), (.int .i64 (1))]) h 3 [(.int .i64 (1)), (.int .i64 (1))] rfl Many51 rfl rfl rfl rfl rfl (ones_cons rfl (ones_cons rfl ones_nil)) fun w h => wl_ok (r_assign (v := (.bool (true))) rfl) (wl_nil (then_normal (wc_ret (inBlock_ret (then_ret (fin_ct (vs := [(.int .i64 (1)), (.int .i64 (1))]) (v2 := (.bool (true))) Tryz.results87 rfl rfl h 3 rfl Many51 rfl ?_))))))))
         obtain rfl := Option.some.inj hs
         exact ⟨h.grown, rfl⟩
        ·
         refine wc_skip (then_normal (wc_seq (wc_region (wl_ok (r_build (pv := [(0, (.int .i64 (1)))]) (out := [(.int .i64 (1)), (.int .i64 (0))]) Struct51 rfl ⟨0, 1, [(.int .i64 (1))], rfl, rfl, rfl, Nat.le_of_ble_eq_true rfl, rfl⟩) (w_stN (vs := [(.int .i64 (1)), (.int .i64 (0))]) h 5 [(.int .i64 (1)), (.int .i64 (0))] rfl Many51 rfl rfl rfl rfl rfl (ones_cons rfl (ones_cons rfl ones_nil)) fun w h => wl_ok (r_assign (v := (.bool (true))) rfl) (wl_nil (then_normal (wc_ret (fin_ct (vs := [(.int .i64 (1)), (.int .i64 (0))]) (v2 := (.bool (true))) Tryz.results117 rfl rfl h 5 rfl Many51 rfl (⟨_, rfl, ?_⟩))))))))))
         refine wl_ok (r_extract rfl rfl) (wl_ok (r_extract rfl rfl) (w_stN (vs := [(.int .i64 (1)), (.int .i64 (0))]) h 3 [(.int .i64 (1)), (.int .i64 (0))] rfl Many51 rfl rfl rfl rfl rfl (ones_cons rfl (ones_cons rfl ones_nil)) fun w h => wl_ok (r_assign (v := (.bool (true))) rfl) (wl_nil (then_normal (wc_ret (inBlock_ret (then_ret (fin_ct (vs := [(.int .i64 (1)), (.int .i64 (0))]) (v2 := (.bool (true))) Tryz.results87 rfl rfl h 3 rfl Many51 rfl ?_))))))))
         obtain rfl := Option.some.inj hs
         exact ⟨h.grown, rfl⟩
       ·
        refine wc_skip (inBlock_normal (then_loop ?_))
        exact jend 0 ⟨h.cn _, hs⟩
def vm_field_j3 (sx : LX.State) (a : Ins) (x5 : Val) (xb : LX.Frame) (kb : Int) (x14 : Bool) : Option (Bool × LX.State) :=
  bif x14 then some (false, sx) else bif decide ((a.op : Int) = 6) then (idx sx.cells x5.n).bind fun x17 => (idx xb.regs a.b).bind fun x27 => (idx x17 a.c).bind fun x35 => some (true, (⟨sx.frames, (sx.cells.set (x5.n).toNat (x17.set (a.c).toNat x27)), sx.status, sx.wher⟩ : LX.State)) else (idx sx.cells x5.n).bind fun x41 => (idx x41 a.c).bind fun x51 => (idx xb.regs a.a).bind fun x59 => some (true, (⟨(sx.frames.set (kb).toNat ({ xb with regs := (xb.regs.set (a.a).toNat x51) })), sx.cells, sx.status, sx.wher⟩ : LX.State))
def vm_field_j1 (xb : LX.Frame) (sx : LX.State) (a : Ins) (kb : Int) (x4 : Int) : Option (Bool × LX.State) :=
  (idx xb.regs x4).bind fun x5 => bif decide ((x5.kind : Int) ≠ 2) then vm_field_j3 sx a x5 xb kb true else (idx sx.cells x5.n).bind fun x66 => vm_field_j3 sx a x5 xb kb (decide (((x66.length : Int) : Int) ≤ a.c))
def vm_field (sx : LX.State) (a : Ins) (kb : Int) (xb : LX.Frame) : Option (Bool × LX.State) :=
  bif decide ((a.op : Int) = 6) then vm_field_j1 xb sx a kb a.a else vm_field_j1 xb sx a kb a.b
theorem vm_field_c (w0 : World) (M : BS) (hM : ∀ b, M b → b < w0.heap.size) (sb : Nat) (sx : LX.State) (vs0 vs1 : Value) (ws0 ws1 : List Value) (hC : Chunk.holds w0 M (Chunk.own' (.two (.two (.two (.two (.blk sb [vs0, vs1, (.int .i64 (sx.status)), (.int .i64 (sx.wher))]) (.own nFrame.raw 49 vs0 (List.zip sx.frames ws0))) (.pce (famS rVal 51 hn ws0 (List.map nFrame.sub sx.frames)))) (.own (nLst Val).raw 47 vs1 (List.zip sx.cells ws1))) (.pce (famS rVal 51 hn ws1 (List.map (nLst Val).sub sx.cells))) : Chunk)) (.two (.two (.two (.two (.blk sb [vs0, vs1, (.int .i64 (sx.status)), (.int .i64 (sx.wher))]) (.own nFrame.raw 49 vs0 (List.zip sx.frames ws0))) (.pce (famS rVal 51 hn ws0 (List.map nFrame.sub sx.frames)))) (.own (nLst Val).raw 47 vs1 (List.zip sx.cells ws1))) (.pce (famS rVal 51 hn ws1 (List.map (nLst Val).sub sx.cells))) : Chunk)) (hap : ∀ b, Chunk.own' (.two (.two (.two (.two (.blk sb [vs0, vs1, (.int .i64 (sx.status)), (.int .i64 (sx.wher))]) (.own nFrame.raw 49 vs0 (List.zip sx.frames ws0))) (.pce (famS rVal 51 hn ws0 (List.map nFrame.sub sx.frames)))) (.own (nLst Val).raw 47 vs1 (List.zip sx.cells ws1))) (.pce (famS rVal 51 hn ws1 (List.map (nLst Val).sub sx.cells))) : Chunk) b → ¬ M b) (a : Ins) (va4 : Value) (ha4 : RdSl rInt w0 (fun b => M b ∨ (.two (.two (.two (.two (.blk sb [vs0, vs1, (.int .i64 (sx.status)), (.int .i64 (sx.wher))]) (.own nFrame.raw 49 vs0 (List.zip sx.frames ws0))) (.pce (famS rVal 51 hn ws0 (List.map nFrame.sub sx.frames)))) (.own (nLst Val).raw 47 vs1 (List.zip sx.cells ws1))) (.pce (famS rVal 51 hn ws1 (List.map (nLst Val).sub sx.cells))) : Chunk).own' b) va4 a.args) (kb : Int) (xb : LX.Frame) (gb : 0 ≤ kb) (eb : sx.frames[kb.toNat]? = some xb) (vb : Value) (hb : ws0[kb.toNat]? = some vb) (r : Bool × LX.State) (hs : vm_field sx a kb xb = some r) :
    Calls Tryz.prog 88 #[(.pointer (some ⟨sb, 0, none⟩)), (.agg #[(.int .i64 (a.op)), (.int .i64 (a.a)), (.int .i64 (a.b)), (.int .i64 (a.c)), va4]), vb] w0 (fun e w' => Keep (Chunk.own' (.two (.two (.two (.two (.blk sb [vs0, vs1, (.int .i64 (sx.status)), (.int .i64 (sx.wher))]) (.own nFrame.raw 49 vs0 (List.zip sx.frames ws0))) (.pce (famS rVal 51 hn ws0 (List.map nFrame.sub sx.frames)))) (.own (nLst Val).raw 47 vs1 (List.zip sx.cells ws1))) (.pce (famS rVal 51 hn ws1 (List.map (nLst Val).sub sx.cells))) : Chunk)) w0 w' ∧ ∃ us0, ∃ us1, ∃ wt0, ∃ wt1, e = .returned (.bool r.1) ∧ Chunk.holds w' M (Chunk.own' (.two (.two (.two (.two (.blk sb [us0, us1, .int .i64 r.2.status, .int .i64 r.2.wher]) (.own nFrame.raw 49 us0 (List.zip r.2.frames wt0))) (.pce (famS rVal 51 hn wt0 (List.map nFrame.sub r.2.frames)))) (.own (nLst Val).raw 47 us1 (List.zip r.2.cells wt1))) (.pce (famS rVal 51 hn wt1 (List.map (nLst Val).sub r.2.cells))) : Chunk)) (.two (.two (.two (.two (.blk sb [us0, us1, .int .i64 r.2.status, .int .i64 r.2.wher]) (.own nFrame.raw 49 us0 (List.zip r.2.frames wt0))) (.pce (famS rVal 51 hn wt0 (List.map nFrame.sub r.2.frames)))) (.own (nLst Val).raw 47 us1 (List.zip r.2.cells wt1))) (.pce (famS rVal 51 hn wt1 (List.map (nLst Val).sub r.2.cells))) : Chunk) ∧ (∀ b, Chunk.own' (.two (.two (.two (.two (.blk sb [us0, us1, .int .i64 r.2.status, .int .i64 r.2.wher]) (.own nFrame.raw 49 us0 (List.zip r.2.frames wt0))) (.pce (famS rVal 51 hn wt0 (List.map nFrame.sub r.2.frames)))) (.own (nLst Val).raw 47 us1 (List.zip r.2.cells wt1))) (.pce (famS rVal 51 hn wt1 (List.map (nLst Val).sub r.2.cells))) : Chunk) b → b < w0.heap.size → Chunk.own' (.two (.two (.two (.two (.blk sb [vs0, vs1, (.int .i64 (sx.status)), (.int .i64 (sx.wher))]) (.own nFrame.raw 49 vs0 (List.zip sx.frames ws0))) (.pce (famS rVal 51 hn ws0 (List.map nFrame.sub sx.frames)))) (.own (nLst Val).raw 47 vs1 (List.zip sx.cells ws1))) (.pce (famS rVal 51 hn ws1 (List.map (nLst Val).sub sx.cells))) : Chunk) b)) := by
 refine calls_start (args := [(.pointer (some ⟨sb, 0, none⟩)), (.agg #[(.int .i64 (a.op)), (.int .i64 (a.a)), (.int .i64 (a.b)), (.int .i64 (a.c)), va4]), vb]) Tryz.func88 rfl Tryz.ntmps88 (Nat.le_of_ble_eq_true rfl) ?_
 have h := SH.init1 hM hC hap
 replace h := h.argRdC 6 ha4 own1
 generalize hK0 : (.two (.two (.two (.two (.blk sb [vs0, vs1, (.int .i64 (sx.status)), (.int .i64 (sx.wher))]) (.own nFrame.raw 49 vs0 (List.zip sx.frames ws0))) (.pce (famS rVal 51 hn ws0 (List.map nFrame.sub sx.frames)))) (.own (nLst Val).raw 47 vs1 (List.zip sx.cells ws1))) (.pce (famS rVal 51 hn ws1 (List.map (nLst Val).sub sx.cells))) : Chunk).own' = K0 at h
 replace h := h.unpair 1 5 (by decide) rfl rfl
 replace h := h.unpair 1 4 (by decide) rfl rfl
 replace h := h.unpair 1 3 (by decide) rfl rfl
 replace h := h.unpair 1 2 (by decide) rfl rfl
 obtain ⟨u1, e2, h⟩ := h.dnOpenL 3 7 xb.regs rfl rfl (by decide) eb rfl
 obtain rfl : vb = u1 := Option.some.inj (hb.symm.trans e2)
 refine wc_seq (wc_region (w_box (cs := [(.int .i64 (a.op)), (.int .i64 (a.a)), (.int .i64 (a.b)), (.int .i64 (a.c)), va4]) h 8 rfl rfl fun w b3 h => wl_ok (r_assign (v := (.bool (false))) rfl) (wl_nil (then_normal (wc_seq (wc_region (wl_ok (r_fieldAddr Fld93x2 rfl) (wl_ok (r_ldB h 8 rfl One3 rfl rfl) (wl_ok (r_assign (v := (.int .i64 (a.b))) rfl) (wl_nil (then_normal (wc_join (σ := Int) (inl [7, 11, 12, 13, 14, 15]) (fun x4 => [(7, (.int .i64 (x4)))]) (fun x4 w => SH w0 M K0 w (hset [(1, .blk sb [vs0, vs1, (.int .i64 (sx.status)), (.int .i64 (sx.wher))]), (2, .own nFrame.raw 49 vs0 (List.zip sx.frames ws0)), (3, .pce (famS rVal 51 (hat (kb).toNat) ws0 (List.map nFrame.sub sx.frames))), (4, .own (nLst Val).raw 47 vs1 (List.zip sx.cells ws1)), (5, .pce (famS rVal 51 hn ws1 (List.map (nLst Val).sub sx.cells))), (6, .rd rInt va4 a.args), (7, .own rVal 51 vb xb.regs), (8, .blk b3 [(.int .i64 (a.op)), (.int .i64 (a.a)), (.int .i64 (a.b)), (.int .i64 (a.c)), va4])]) ∧ vm_field_j1 xb sx a kb x4 = some r) ?_ ?_))))))))))))
 ·
  rintro x4 w junk ⟨h, hs⟩
  refine wc_seq (wc_region (wl_ok (r_move (v := vb) rfl) (wl_ok (r_move (v := (.int .i64 (x4))) rfl) ?_)))
  obtain ⟨x5, e6, hs⟩ := o_bind hs
  obtain ⟨b8, q9, i7⟩ := h.ixO 7 rfl SliceOf47 rfl (o_idx e6).1 (o_idx e6).2
  refine wl_ok (i7 _ _ _ _ _ _ _ _ _ rfl rfl) ?_
  obtain ⟨cs10, m11, r12⟩ := h.elO 7 rfl q9 (o_idx e6).2
  obtain rfl := r12
  refine wl_ok (r_ldAN (k := 0) (vs := [(.int .i64 (x5.kind)), (.int .i64 (x5.n))]) m11 Many51 rfl rfl rfl (Nat.le_of_ble_eq_true rfl)) (w_allocN h 9 Many51 fun w b13 h => w_stN (vs := [(.int .i64 (x5.kind)), (.int .i64 (x5.n))]) h 9 [(.int .i64 (x5.kind)), (.int .i64 (x5.n))] rfl Many51 rfl rfl rfl rfl rfl (ones_cons rfl (ones_cons rfl ones_nil)) fun w h => wl_nil (then_normal (wc_seq (wc_join (σ := Bool) (inl [20, 21, 22, 23, 24, 25, 26, 27, 28, 29, 30, 31, 32, 33, 34, 35, 36]) (fun x14 => [(36, (.bool (x14)))]) (fun x14 w => SH w0 M K0 w (hset [(1, .blk sb [vs0, vs1, (.int .i64 (sx.status)), (.int .i64 (sx.wher))]), (2, .own nFrame.raw 49 vs0 (List.zip sx.frames ws0)), (3, .pce (famS rVal 51 (hat (kb).toNat) ws0 (List.map nFrame.sub sx.frames))), (4, .own (nLst Val).raw 47 vs1 (List.zip sx.cells ws1)), (5, .pce (famS rVal 51 hn ws1 (List.map (nLst Val).sub sx.cells))), (6, .rd rInt va4 a.args), (7, .own rVal 51 vb xb.regs), (8, .blk b3 [(.int .i64 (a.op)), (.int .i64 (a.a)), (.int .i64 (a.b)), (.int .i64 (a.c)), va4]), (9, .blk b13 [(.int .i64 (x5.kind)), (.int .i64 (x5.n))])]) ∧ vm_field_j3 sx a x5 xb kb x14 = some r) ?_ ?_))))
  ·
   rintro x14 w junk ⟨h, hs⟩
   refine wc_ifb hs rfl (fun c15 hs => ?_) (fun c15 hs => ?_)
   ·
    refine wc_seq (wc_region (wl_ok (r_assign (v := (.bool (false))) rfl) (wl_nil (then_normal (wc_ret (then_ret (fin1 (v := (.bool (false))) Tryz.results88 rfl ?_)))))))
    replace h := h.dnClose0 3 7 rfl rfl (by decide) eb hb rfl
    replace h := h.pair 1 2 (by decide)
    replace h := h.pair 1 3 (by decide)
    replace h := h.pair 1 4 (by decide)
    replace h := h.pair 1 5 (by decide)
    obtain rfl := Option.some.inj hs
    subst hK0
    obtain ⟨o1, o2, o3⟩ := h.outS 1 (C := (.two (.two (.two (.two (.blk sb [vs0, vs1, (.int .i64 (sx.status)), (.int .i64 (sx.wher))]) (.own nFrame.raw 49 vs0 (List.zip sx.frames ws0))) (.pce (famS rVal 51 hn ws0 (List.map nFrame.sub sx.frames)))) (.own (nLst Val).raw 47 vs1 (List.zip sx.cells ws1))) (.pce (famS rVal 51 hn ws1 (List.map (nLst Val).sub sx.cells))) : Chunk)) rfl ⟨⟨⟨⟨trivial, trivial⟩, trivial⟩, trivial⟩, trivial⟩
    exact ⟨o2, vs0, vs1, ws0, ws1, rfl, o1, o3⟩
   ·
    refine wc_skip (then_normal (wc_seq (wc_seq (wc_region (wl_ok (r_fieldAddr Fld93x0 rfl) (wl_ok (r_ldB h 8 rfl One3 rfl rfl) (wl_ok (r_eql rfl rfl) (wl_nil (then_normal (wc_ifb hs rfl (fun c16 hs => ?_) (fun c16 hs => ?_)))))))))))
    ·
     refine wc_tail 16 mixed (by kernel_rfl) h fun w h => wk_ok (r_move (v := (.pointer (some ⟨sb, 0, none⟩))) rfl) (wk_ok (r_nilCheck rfl) (wk_ok (r_fieldAddr Fld26x1 rfl) (wk_ok (r_ldB h 1 rfl One24 rfl rfl) (wk_ok (r_fieldAddr Fld51x1 rfl) (wk_ok (r_ldB h 9 rfl One3 rfl rfl) ?_)))))
     obtain ⟨x17, e18, hs⟩ := o_bind hs
     obtain ⟨u22, e23, h⟩ := h.dnOpenL 5 10 x17 rfl rfl (by decide) (o_idx e18).2 rfl
     obtain ⟨b20, q21, i19⟩ := h.ixO 4 rfl SliceOf24 rfl (o_idx e18).1 (zip_at (o_idx e18).2 e23)
     refine wk_ok (i19 _ _ _ _ _ _ _ _ _ rfl rfl) ?_
     obtain ⟨cs24, m25, r26⟩ := h.elO 4 rfl q21 (zip_at (o_idx e18).2 e23)
     obtain ⟨rfl, -⟩ := r26
     refine wk_ok (r_ldA (k := 0) m25 One47 rfl rfl) (wk_ok (r_fieldAddr Fld93x3 rfl) (wk_ok (r_ldB h 8 rfl One3 rfl rfl) (wk_ok (r_move (v := vb) rfl) (wk_ok (r_fieldAddr Fld93x2 rfl) (wk_ok (r_ldB h 8 rfl One3 rfl rfl) ?_)))))
     obtain ⟨x27, e28, hs⟩ := o_bind hs
     obtain ⟨b30, q31, i29⟩ := h.ixO 7 rfl SliceOf47 rfl (o_idx e28).1 (o_idx e28).2
     refine wk_ok (i29 _ _ _ _ _ _ _ _ _ rfl rfl) ?_
     obtain ⟨cs32, m33, r34⟩ := h.elO 7 rfl q31 (o_idx e28).2
     obtain rfl := r34
     refine wk_ok (r_ldAN (k := 0) (vs := [(.int .i64 (x27.kind)), (.int .i64 (x27.n))]) m33 Many51 rfl rfl rfl (Nat.le_of_ble_eq_true rfl)) ?_
     obtain ⟨x35, e36, hs⟩ := o_bind hs
     obtain ⟨b38, q39, i37⟩ := h.ixO 10 rfl SliceOf47 rfl (o_idx e36).1 (o_idx e36).2
     refine wk_ok (i37 _ _ _ _ _ _ _ _ _ rfl rfl) (wk_go (w_stON (a' := x27) (vs := [(.int .i64 (x27.kind)), (.int .i64 (x27.n))]) h 10 rfl q39 rfl (o_idx e36).2 Many51 rfl rfl rfl rfl rfl fun w h k40 => wl_nil (then_normal (wc_seq (wc_region (wl_ok (r_assign (v := (.bool (true))) rfl) (wl_nil (then_normal (wc_ret (fin1 (v := (.bool (true))) Tryz.results88 rfl ?_))))))))))
     replace h := h.dnClose0 3 7 rfl rfl (by decide) eb hb rfl
     replace h := h.dnClose 4 5 10 (x17.set (a.c).toNat x27) rfl rfl rfl (by decide) (by decide) (by decide) (o_idx e18).2 e23 rfl
     replace h := h.pair 1 2 (by decide)
     replace h := h.pair 1 3 (by decide)
     replace h := h.pair 1 4 (by decide)
     replace h := h.pair 1 5 (by decide)
     obtain rfl := Option.some.inj hs
     subst hK0
     obtain ⟨o1, o2, o3⟩ := h.outS 1 (C := (.two (.two (.two (.two (.blk sb [vs0, vs1, (.int .i64 (sx.status)), (.int .i64 (sx.wher))]) (.own nFrame.raw 49 vs0 (List.zip sx.frames ws0))) (.pce (famS rVal 51 hn ws0 (List.map nFrame.sub sx.frames)))) (.own (nLst Val).raw 47 vs1 (List.zip (sx.cells.set (x5.n).toNat (x17.set (a.c).toNat x27)) ws1))) (.pce (famS rVal 51 hn ws1 (List.map (nLst Val).sub (sx.cells.set (x5.n).toNat (x17.set (a.c).toNat x27))))) : Chunk)) rfl ⟨⟨⟨⟨trivial, trivial⟩, trivial⟩, trivial⟩, trivial⟩
     exact ⟨o2, vs0, vs1, ws0, ws1, rfl, o1, o3⟩
    ·
     refine wc_tail 16 mixed (by kernel_rfl) h fun w h => wk_ok (r_move (v := vb) rfl) (wk_ok (r_fieldAddr Fld93x1 rfl) (wk_ok (r_ldB h 8 rfl One3 rfl rfl) (wk_ok (r_move (v := (.pointer (some ⟨sb, 0, none⟩))) rfl) (wk_ok (r_nilCheck rfl) (wk_ok (r_fieldAddr Fld26x1 rfl) (wk_ok (r_ldB h 1 rfl One24 rfl rfl) (wk_ok (r_fieldAddr Fld51x1 rfl) (wk_ok (r_ldB h 9 rfl One3 rfl rfl) ?_))))))))
     obtain ⟨x41, e42, hs⟩ := o_bind hs
     obtain ⟨u46, e47, h⟩ := h.dnOpenL 5 11 x41 rfl rfl (by decide) (o_idx e42).2 rfl
     obtain ⟨b44, q45, i43⟩ := h.ixO 4 rfl SliceOf24 rfl (o_idx e42).1 (zip_at (o_idx e42).2 e47)
     refine wk_ok (i43 _ _ _ _ _ _ _ _ _ rfl rfl) ?_
     obtain ⟨cs48, m49, r50⟩ := h.elO 4 rfl q45 (zip_at (o_idx e42).2 e47)
     obtain ⟨rfl, -⟩ := r50
     refine wk_ok (r_ldA (k := 0) m49 One47 rfl rfl) (wk_ok (r_fieldAddr Fld93x3 rfl) (wk_ok (r_ldB h 8 rfl One3 rfl rfl) ?_))
     obtain ⟨x51, e52, hs⟩ := o_bind hs
     obtain ⟨b54, q55, i53⟩ := h.ixO 11 rfl SliceOf47 rfl (o_idx e52).1 (o_idx e52).2
     refine wk_ok (i53 _ _ _ _ _ _ _ _ _ rfl rfl) ?_
     obtain ⟨cs56, m57, r58⟩ := h.elO 11 rfl q55 (o_idx e52).2
     obtain rfl := r58
     refine wk_ok (r_ldAN (k := 0) (vs := [(.int .i64 (x51.kind)), (.int .i64 (x51.n))]) m57 Many51 rfl rfl rfl (Nat.le_of_ble_eq_true rfl)) ?_
     obtain ⟨x59, e60, hs⟩ := o_bind hs
     obtain ⟨b62, q63, i61⟩ := h.ixO 7 rfl SliceOf47 rfl (o_idx e60).1 (o_idx e60).2
     refine wk_ok (i61 _ _ _ _ _ _ _ _ _ rfl rfl) (wk_go (w_stON (a' := x51) (vs := [(.int .i64 (x51.kind)), (.int .i64 (x51.n))]) h 7 rfl q63 rfl (o_idx e60).2 Many51 rfl rfl rfl rfl rfl fun w h k64 => wl_nil (then_normal (wc_seq (wc_region (wl_ok (r_assign (v := (.bool (true))) rfl) (wl_nil (then_normal (wc_ret (fin1 (v := (.bool (true))) Tryz.results88 rfl ?_))))))))))
     replace h := h.dnClose 2 3 7 ({ xb with regs := (xb.regs.set (a.a).toNat x51) }) rfl rfl rfl (by decide) (by decide) (by decide) eb hb rfl
     replace h := h.dnClose0 5 11 rfl rfl (by decide) (o_idx e42).2 e47 rfl
     replace h := h.pair 1 2 (by decide)
     replace h := h.pair 1 3 (by decide)
     replace h := h.pair 1 4 (by decide)
     replace h := h.pair 1 5 (by decide)
     obtain rfl := Option.some.inj hs
     subst hK0
     obtain ⟨o1, o2, o3⟩ := h.outS 1 (C := (.two (.two (.two (.two (.blk sb [vs0, vs1, (.int .i64 (sx.status)), (.int .i64 (sx.wher))]) (.own nFrame.raw 49 vs0 (List.zip (sx.frames.set (kb).toNat ({ xb with regs := (xb.regs.set (a.a).toNat x51) })) ws0))) (.pce (famS rVal 51 hn ws0 (List.map nFrame.sub (sx.frames.set (kb).toNat ({ xb with regs := (xb.regs.set (a.a).toNat x51) })))))) (.own (nLst Val).raw 47 vs1 (List.zip sx.cells ws1))) (.pce (famS rVal 51 hn ws1 (List.map (nLst Val).sub sx.cells))) : Chunk)) rfl ⟨⟨⟨⟨trivial, trivial⟩, trivial⟩, trivial⟩, trivial⟩
     exact ⟨o2, vs0, vs1, ws0, ws1, rfl, o1, o3⟩
  ·
   refine wc_still mixed (by kernel_rfl) h fun w h => wk_ok (r_fieldAddr Fld51x0 rfl) (wk_ok (r_ldB h 9 rfl One3 rfl rfl) (wk_ok (r_neq rfl rfl) (wk_ok (r_move (v := (.bool (decide ((x5.kind : Int) ≠ 2)))) rfl) (c_split (b := decide ((x5.kind : Int) ≠ 2)) hs (fun c65 hs => ?_) (fun c65 hs => ?_)))))
   ·
    refine wk_off (b' := true) rfl (congrArg Value.bool c65) rfl (wk_off (b' := true) rfl (congrArg Value.bool c65) rfl (wk_off (b' := true) rfl (congrArg Value.bool c65) rfl (wk_off (b' := true) rfl (congrArg Value.bool c65) rfl (wk_off (b' := true) rfl (congrArg Value.bool c65) rfl (wk_off (b' := true) rfl (congrArg Value.bool c65) rfl (wk_off (b' := true) rfl (congrArg Value.bool c65) rfl (wk_off (b' := true) rfl (congrArg Value.bool c65) rfl (wk_off (b' := true) rfl (congrArg Value.bool c65) rfl (wk_off (b' := true) rfl (congrArg Value.bool c65) rfl (wk_off (b' := true) rfl (congrArg Value.bool c65) rfl (wk_off (b' := true) rfl (congrArg Value.bool c65) rfl (wk_ok (r_pick (b := true) (v := (.bool (true))) (congrArg Value.bool c65) rfl) (wk_end (then_loop ?_))))))))))))))
    exact jend true ⟨h.cn _, hs⟩
   ·
    refine wk_on rfl (congrArg Value.bool c65) (wk_ok (r_fieldAddr Fld93x3 rfl) (wk_on rfl (congrArg Value.bool c65) (wk_ok (r_ldB h 8 rfl One3 rfl rfl) (wk_on rfl (congrArg Value.bool c65) (wk_ok (r_move (v := (.pointer (some ⟨sb, 0, none⟩))) rfl) (wk_on rfl (congrArg Value.bool c65) (wk_ok (r_nilCheck rfl) (wk_on rfl (congrArg Value.bool c65) (wk_ok (r_fieldAddr Fld26x1 rfl) (wk_on rfl (congrArg Value.bool c65) (wk_ok (r_ldB h 1 rfl One24 rfl rfl) (wk_on rfl (congrArg Value.bool c65) (wk_ok (r_fieldAddr Fld51x1 rfl) (wk_on rfl (congrArg Value.bool c65) (wk_ok (r_ldB h 9 rfl One3 rfl rfl) (wk_on rfl (congrArg Value.bool c65) ?_))))))))))))))))
    obtain ⟨x66, e67, hs⟩ := o_bind hs
    obtain ⟨u71, e72, h⟩ := h.dnOpenL 5 12 x66 rfl rfl (by decide) (o_idx e67).2 rfl
    obtain ⟨b69, q70, i68⟩ := h.ixO 4 rfl SliceOf24 rfl (o_idx e67).1 (zip_at (o_idx e67).2 e72)
    refine wk_ok (i68 _ _ _ _ _ _ _ _ _ rfl rfl) (wk_on rfl (congrArg Value.bool c65) ?_)
    obtain ⟨cs73, m74, r75⟩ := h.elO 4 rfl q70 (zip_at (o_idx e67).2 e72)
    obtain ⟨rfl, -⟩ := r75
    refine wk_ok (r_ldA (k := 0) m74 One47 rfl rfl) (wk_on rfl (congrArg Value.bool c65) (wk_ok (r_len SliceOf47 rfl (h.ownS 12 rfl)) (wk_on rfl (congrArg Value.bool c65) (wk_ok (r_geq rfl rfl) (wk_ok (r_pick (b := false) (v := (.bool (decide (((x66.length : Int) : Int) ≤ a.c)))) (congrArg Value.bool c65) rfl) (wk_end ?_))))))
    replace h := h.dnClose0 5 12 rfl rfl (by decide) (o_idx e67).2 e72 rfl
    refine then_loop ?_
    exact jend (decide (((x66.length : Int) : Int) ≤ a.c)) ⟨h.cn _, hs⟩
 ·
  refine wc_seq (wc_region (wl_ok (r_fieldAddr Fld93x0 rfl) (wl_ok (r_ldB h 8 rfl One3 rfl rfl) (wl_ok (r_eql rfl rfl) (wl_nil (then_normal (wc_ifb hs rfl (fun c76 hs => ?_) (fun c76 hs => ?_))))))))
  ·
   refine wc_region (wl_ok (r_fieldAddr Fld93x1 rfl) (wl_ok (r_ldB h 8 rfl One3 rfl rfl) (wl_ok (r_assign (v := (.int .i64 (a.a))) rfl) (wl_nil (then_loop ?_)))))
   exact jend a.a ⟨h.cn _, hs⟩
  ·
   refine wc_skip (then_loop ?_)
   exact jend a.b ⟨h.cn _, hs⟩
def cell_Reach_j10 (nx38 : (List Int × List (Int × Bool)) → Option (List Int × Int)) (y42 : List Int) (y43 : List (Int × Bool)) : Option (List Int × Int) :=
  nx38 (y42, y43)
def cell_Reach_j69 (nx112 : (List Int × List (Int × Bool)) → Option (List Int × Int)) (y116 : List Int) (y117 : List (Int × Bool)) : Option (List Int × Int) :=
  nx112 (y116, y117)
def cell_Reach_b70 (x110 : Val) (s : List Int × List (Int × Bool)) (nx112 : List Int × List (Int × Bool) → Option (List Int × Int)) : Option (List Int × Int) :=
  match s with | (y106, y107) => bif (decide ((x110.kind : Int) = 2) && (!((lk x110.n y107).getD false))) then grd (Room 8 y106 [x110.n]) (cell_Reach_j69 nx112 (y106 ++ [x110.n]) (lput x110.n true y107)) else cell_Reach_j69 nx112 y106 y107
def cell_Reach_k71 (x67 : Int) (nx75 : (Int × List Int × List (Int × Bool)) → Option (List Int × Int)) (s : List Int × List (Int × Bool)) : Option (List Int × Int) :=
  match s with | (y106, y107) => grd (I64 (x67 + 1)) (nx75 ((x67 + 1), y106, y107))
def cell_Reach_b72 (a : List (List Val)) (s : Int × List Int × List (Int × Bool)) (nx75 : Int × List Int × List (Int × Bool) → Option (List Int × Int)) : Option (List Int × Int) :=
  match s with | (x67, y69, y70) => bif decide ((x67 : Int) < (y69.length : Int)) then (idx y69 x67).bind fun x79 => (idx a x79).bind fun x87 => each cell_Reach_b70 (cell_Reach_k71 x67 nx75) x87 (y69, y70) else some (y69, 0)
def cell_Reach_b73 (x36 : Val) (s : List Int × List (Int × Bool)) (nx38 : List Int × List (Int × Bool) → Option (List Int × Int)) : Option (List Int × Int) :=
  match s with | (y32, y33) => bif (decide ((x36.kind : Int) = 2) && (!((lk x36.n y33).getD false))) then grd (Room 8 y32 [x36.n]) (cell_Reach_j10 nx38 (y32 ++ [x36.n]) (lput x36.n true y33)) else cell_Reach_j10 nx38 y32 y33
def cell_Reach_k74 (N : Nat) (a : List (List Val)) (s : List Int × List (Int × Bool)) : Option (List Int × Int) :=
  match s with | (y32, y33) => again (cell_Reach_b72 a) N (0, y32, y33)
def cell_Reach_b75 (a : List (List Val)) (x6 : Val) (s : Unit) (nx8 : Unit → Option (List Int × Int)) : Option (List Int × Int) :=
  bif decide (((cell_Check x6 (a.length : Int)) : Int) ≠ 0) then some ([], (cell_Check x6 (a.length : Int))) else nx8 ()
def cell_Reach_k76 (N : Nat) (a : List (List Val)) (b : List Val) (s : Unit) : Option (List Int × Int) :=
  each cell_Reach_b73 (cell_Reach_k74 N a) b ([], ([] : List (Int × Bool)))
def cell_Reach (N : Nat) (a : List (List Val)) (b : List Val) : Option (List Int × Int) :=
  bif decide (((cell_CheckAll a) : Int) ≠ 0) then some ([], (cell_CheckAll a)) else bif decide ((400 : Int) < (b.length : Int)) then some ([], 2) else each (cell_Reach_b75 a) (cell_Reach_k76 N a b) b ()
theorem cell_Reach_c (N : Nat) (w0 : World) (M : BS) (hM : ∀ b, M b → b < w0.heap.size) (va : Value) (a : List (List Val)) (ha : Rd2 (rSl rVal) w0 BE M va a) (vb : Value) (b : List Val) (hb : Rd2 rVal w0 BE M vb b) (r : List Int × Int) (hs : cell_Reach N a b = some r) :
    Calls Tryz.prog 48 #[va, vb] w0 (fun e w' => Grow w0 w' ∧ ∃ u0, e = .returned (.tuple #[u0, .int .i64 r.2]) ∧ OwnSl rInt 3 w' M u0 r.1 ∧ (∀ b, ob u0 b → w0.heap.size ≤ b)) := by
 refine calls_start (args := [va, vb]) Tryz.func48 rfl Tryz.ntmps48 (Nat.le_of_ble_eq_true rfl) ?_
 have h := SH.init hM
 replace h := h.argSr 1 ha none_own
 replace h := h.argSr 2 hb (hupd_own_sr none_own)
 have hl_a := ha.len_le
 have hl_b := hb.len_le
 refine wc_seq (wc_region (wl_ok (r_assign (v := (.slice none 0 0)) rfl) (wl_ok (r_assign (v := (.int .i64 (0))) rfl) (wl_nil (then_normal (wc_seq (wc_seq (wc_region (wl_ok (r_move (v := va) rfl) (w_call fnOk80 rfl rfl (cell_CheckAll_c _ _ h.lt va a (h.srS 1 rfl) _ rfl) ?_))))))))))
 rintro _ w ⟨k1, rfl⟩
 refine ⟨_, rfl, ?_⟩
 replace h := h.grow k1
 refine wl_ok (r_assign (v := (.int .i64 ((cell_CheckAll a)))) rfl) (wl_nil (then_normal (wc_seq (wc_region (wl_ok (r_move (v := (.int .i64 ((cell_CheckAll a)))) rfl) (wl_ok (r_neq rfl rfl) (wl_nil (then_normal (wc_ifb hs rfl (fun c2 hs => ?_) (fun c2 hs => ?_))))))))))
 ·
  refine wc_seq (wc_region (wl_ok (r_move (v := (.int .i64 ((cell_CheckAll a)))) rfl) (wl_ok (r_assign (v := (.slice none 0 0)) rfl) (wl_ok (r_assign (v := (.int .i64 ((cell_CheckAll a)))) rfl) (wl_nil (then_normal (wc_ret (then_ret (fin2 (v1 := (.slice none 0 0)) (v2 := (.int .i64 ((cell_CheckAll a)))) Tryz.results48 rfl rfl ?_)))))))))
  obtain rfl := Option.some.inj hs
  exact ⟨h.grown, _, rfl, OwnSl.nil, fresh_nil⟩
 ·
  refine wc_skip (then_normal (wc_seq (wc_seq (wc_region (wl_ok (r_move (v := vb) rfl) (wl_ok (r_len SliceOf47 rfl (h.srS 2 rfl)) (wl_ok (r_gtr rfl rfl) (wl_nil (then_normal (wc_ifb hs rfl (fun c3 hs => ?_) (fun c3 hs => ?_)))))))))))
  ·
   refine wc_seq (wc_region (wl_ok (r_assign (v := (.slice none 0 0)) rfl) (wl_ok (r_assign (v := (.int .i64 (2))) rfl) (wl_nil (then_normal (wc_ret (then_ret (fin2 (v1 := (.slice none 0 0)) (v2 := (.int .i64 (2))) Tryz.results48 rfl rfl ?_))))))))
   obtain rfl := Option.some.inj hs
   exact ⟨h.grown, _, rfl, OwnSl.nil, fresh_nil⟩
  ·
   refine wc_skip (then_normal (wc_seq (wc_seq (wc_region (wl_ok (r_move (v := vb) rfl) (wl_ok (r_len SliceOf47 rfl (h.srS 2 rfl)) (wl_ok (r_move (v := (.int .i64 (0))) rfl) (wl_nil (then_normal (wc_block (wc_lp (σ := Nat × Int) (inl [4, 5, 8, 9, 28, 29, 30, 31, 32, 33, 34, 35, 36, 37, 38, 39]) (fun ⟨k4, i5⟩ => [(28, (.int .i64 (i5)))]) (fun ⟨k4, i5⟩ w => SH w0 M BE w (hset [(1, .sr (rSl rVal) va a), (2, .sr rVal vb b)]) ∧ i5 = (k4 : Int) ∧ each (cell_Reach_b75 a) (cell_Reach_k76 N a b) (b.drop k4) () = some r) (fun ⟨k4, i5⟩ => b.length - k4) ⟨0, 0⟩ ⟨rfl, trivial⟩ ?_ ?_)))))))))))
   ·
    exact ⟨h.cn _, rfl, hs⟩
   ·
    rintro ⟨k4, i5⟩ w junk ⟨h, hik, hs⟩
    refine wc_seq (wc_region ?_)
    refine wl_ok (r_lss rfl rfl) (wl_nil (then_normal ?_))
    refine wc_seq (wc_if rfl (fun e9 => ?_) (fun e9 => ?_))
    ·
     refine wc_skip (then_normal ?_)
     obtain ⟨x6, e10a, e10b⟩ := drop_lt (hik ▸ e9)
     rw [e10b, each_cons] at hs
     generalize hnx8 : each (cell_Reach_b75 a) (cell_Reach_k76 N a b) (b.drop (k4 + 1)) = nx8 at hs
     have e10r := nat_rng ((h.srS 2 rfl)).len_le hik e9
     refine wc_seq (wc_block (wc_seq (wc_region ?_)))
     obtain ⟨b12, o13, cs14, h, r15, i11⟩ := h.ixS 2 3 rfl SliceOf47 rfl (nat_nn hik) (get_nat hik e10a)
     obtain rfl := r15
     refine wl_ok (i11 _ _ _ _ _ _ _ _ _ rfl rfl) (wl_ok (r_ldPN (k := 0) (vs := [(.int .i64 (x6.kind)), (.int .i64 (x6.n))]) h 3 rfl Many51 rfl rfl rfl (Nat.le_of_ble_eq_true rfl)) (w_allocN h 4 Many51 fun w b16 h => w_stN (vs := [(.int .i64 (x6.kind)), (.int .i64 (x6.n))]) h 4 [(.int .i64 (x6.kind)), (.int .i64 (x6.n))] rfl Many51 rfl rfl rfl rfl rfl (ones_cons rfl (ones_cons rfl ones_nil)) fun w h => wl_nil (then_normal (wc_seq (wc_region (wl_ok (r_ldBN (vs := [(.int .i64 (x6.kind)), (.int .i64 (x6.n))]) h 4 rfl Many51 rfl rfl rfl) (wl_ok (r_move (v := va) rfl) (wl_ok (r_len SliceOf24 rfl (h.srS 1 rfl)) (w_call fnOk81 rfl rfl (cell_Check_c _ _ h.lt x6 (a.length : Int) _ rfl) ?_)))))))))
     rintro _ w ⟨k17, rfl⟩
     refine ⟨_, rfl, ?_⟩
     replace h := h.grow k17
     refine wl_ok (r_assign (v := (.int .i64 ((cell_Check x6 (a.length : Int))))) rfl) (wl_nil (then_normal (wc_seq (wc_region (wl_ok (r_move (v := (.int .i64 ((cell_Check x6 (a.length : Int))))) rfl) (wl_ok (r_neq rfl rfl) (wl_nil (then_normal (wc_ifb hs rfl (fun c18 hs => ?_) (fun c18 hs => ?_))))))))))
     ·
      refine wc_seq (wc_region (wl_ok (r_move (v := (.int .i64 ((cell_Check x6 (a.length : Int))))) rfl) (wl_ok (r_assign (v := (.slice none 0 0)) rfl) (wl_ok (r_assign (v := (.int .i64 ((cell_Check x6 (a.length : Int))))) rfl) (wl_nil (then_normal (wc_ret (inBlock_ret (then_ret (then_ret (inBlock_ret (then_ret (fin2 (v1 := (.slice none 0 0)) (v2 := (.int .i64 ((cell_Check x6 (a.length : Int))))) Tryz.results48 rfl rfl ?_)))))))))))))
      obtain rfl := Option.some.inj hs
      exact ⟨h.grown, _, rfl, OwnSl.nil, fresh_nil⟩
     ·
      refine wc_skip (inBlock_normal (then_normal (wc_region (wl_ok (r_add rfl rfl e10r) (wl_ok (r_move (v := (.int .i64 ((i5 + 1)))) rfl) (wl_nil (then_loop ?_)))))))
      subst hnx8
      exact lend ⟨k4 + 1, i5 + 1⟩ ⟨h.cn _, by omega, hs⟩ (by have := of_decide_eq_true e9; dsimp only; omega)
    ·
     rw [drop_ge (hik ▸ e9), each_nil] at hs
     refine wc_exit (then_exit (then_exit (inBlock_eq (then_normal (wc_seq (wc_region (w_makeMap h 5 fun w b19 h => w_alloc1 h 6 One125 fun w b20 h => w_st1 h 6 [(.map (some b19))] rfl One125 rfl rfl rfl rfl rfl fun w h => wl_nil (then_normal (wc_seq (wc_region (w_alloc1 h 7 One27 fun w b21 h => wl_nil (then_normal (wc_seq (wc_region (wl_ok (r_makeFunc (c1 := []) (c2 := [(.pointer (some ⟨b20, 0, none⟩)), (.pointer (some ⟨b21, 0, none⟩))]) rfl rfl) (wl_ok (r_assign (v := (.func (.func 82) #[] #[(.pointer (some ⟨b20, 0, none⟩)), (.pointer (some ⟨b21, 0, none⟩))])) rfl) (wl_nil (then_normal (wc_seq ?_)))))))))))))))))))
     refine wc_seq (wc_region (wl_ok (r_move (v := vb) rfl) (wl_ok (r_len SliceOf47 rfl (h.srS 2 rfl)) (wl_ok (r_move (v := (.int .i64 (0))) rfl) (wl_nil (then_normal (wc_block ?_)))))))
     replace h := h.nilO (R := rInt) (E := 3) 11
     refine wc_lp (σ := Nat × Int × Value × List Int × List (Int × Bool)) (inl [14, 44, 45, 46, 47, 48, 49, 50, 51]) (fun ⟨k34, i35, v31, y32, y33⟩ => [(44, (.int .i64 (i35)))]) (fun ⟨k34, i35, v31, y32, y33⟩ w => SH w0 M BE w (hset [(1, .sr (rSl rVal) va a), (2, .sr rVal vb b), (5, .mp b19 (List.map (fun p => (p.1, (fun x => Value.bool x) p.2)) y33)), (6, .blk b20 [(.map (some b19))]), (7, .blk b21 [v31]), (11, .own rInt 3 v31 y32)]) ∧ i35 = (k34 : Int) ∧ each cell_Reach_b73 (cell_Reach_k74 N a) (b.drop k34) (y32, y33) = some r) (fun ⟨k34, i35, v31, y32, y33⟩ => b.length - k34) ⟨0, 0, (.slice none 0 0), [], ([] : List (Int × Bool))⟩ ⟨rfl, trivial⟩ ?_ ?_
     ·
      exact ⟨h.cn _, rfl, hs⟩
     ·
      rintro ⟨k34, i35, v31, y32, y33⟩ w junk ⟨h, hik, hs⟩
      refine wc_seq (wc_region ?_)
      refine wl_ok (r_lss rfl rfl) (wl_nil (then_normal ?_))
      refine wc_seq (wc_if rfl (fun e39 => ?_) (fun e39 => ?_))
      ·
       refine wc_skip (then_normal ?_)
       obtain ⟨x36, e40a, e40b⟩ := drop_lt (hik ▸ e39)
       rw [e40b, each_cons] at hs
       generalize hnx38 : each cell_Reach_b73 (cell_Reach_k74 N a) (b.drop (k34 + 1)) = nx38 at hs
       have e40r := nat_rng ((h.srS 2 rfl)).len_le hik e39
       refine wc_join (σ := Value × List Int × List (Int × Bool)) (inl [14, 46, 47, 48, 49, 50]) (fun ⟨v41, y42, y43⟩ => []) (fun ⟨v41, y42, y43⟩ w => SH w0 M BE w (hset [(1, .sr (rSl rVal) va a), (2, .sr rVal vb b), (5, .mp b19 (List.map (fun p => (p.1, (fun x => Value.bool x) p.2)) y43)), (6, .blk b20 [(.map (some b19))]), (7, .blk b21 [v41]), (11, .own rInt 3 v41 y42)]) ∧ cell_Reach_j10 nx38 y42 y43 = some r) ?_ ?_
       ·
        rintro ⟨v41, y42, y43⟩ w junk ⟨h, hs⟩
        refine wc_region (wl_ok (r_add rfl rfl e40r) (wl_ok (r_move (v := (.int .i64 ((i35 + 1)))) rfl) (wl_nil (then_loop ?_))))
        subst hnx38
        exact lend ⟨k34 + 1, i35 + 1, v41, y42, y43⟩ ⟨h.cn _, by omega, hs⟩ (by have := of_decide_eq_true e39; dsimp only; omega)
       ·
        refine wc_block (wc_seq (wc_region ?_))
        obtain ⟨b45, o46, cs47, h, r48, i44⟩ := h.ixS 2 12 rfl SliceOf47 rfl (nat_nn hik) (get_nat hik e40a)
        obtain rfl := r48
        refine wl_ok (i44 _ _ _ _ _ _ _ _ _ rfl rfl) (wl_ok (r_ldPN (k := 0) (vs := [(.int .i64 (x36.kind)), (.int .i64 (x36.n))]) h 12 rfl Many51 rfl rfl rfl (Nat.le_of_ble_eq_true rfl)) (w_allocN h 13 Many51 fun w b49 h => w_stN (vs := [(.int .i64 (x36.kind)), (.int .i64 (x36.n))]) h 13 [(.int .i64 (x36.kind)), (.int .i64 (x36.n))] rfl Many51 rfl rfl rfl rfl rfl (ones_cons rfl (ones_cons rfl ones_nil)) fun w h => wl_nil (then_normal (wc_region (wl_ok (r_move (v := (.func (.func 82) #[] #[(.pointer (some ⟨b20, 0, none⟩)), (.pointer (some ⟨b21, 0, none⟩))])) rfl) (wl_ok (r_ldBN (vs := [(.int .i64 (x36.kind)), (.int .i64 (x36.n))]) h 13 rfl Many51 rfl rfl rfl) (w_callIn (args := [(.agg #[(.int .i64 (x36.kind)), (.int .i64 (x36.n))]), (.pointer (some ⟨b20, 0, none⟩)), (.pointer (some ⟨b21, 0, none⟩))]) fnOk82 rfl rfl (calls_start (args := [(.agg #[(.int .i64 (x36.kind)), (.int .i64 (x36.n))]), (.pointer (some ⟨b20, 0, none⟩)), (.pointer (some ⟨b21, 0, none⟩))]) Tryz.func82 rfl Tryz.ntmps82 (Nat.le_of_ble_eq_true rfl) (wc_seq (wc_region (w_box (cs := [(.int .i64 (x36.kind)), (.int .i64 (x36.n))]) h 14 rfl rfl fun w b50 h => wl_nil (then_normal (wc_seq (wc_region (wl_ok (r_fieldAddr Fld51x0 rfl) (wl_ok (r_ldB h 14 rfl One3 rfl rfl) (wl_ok (r_eql rfl rfl) (wl_ok (r_move (v := (.bool (decide ((x36.kind : Int) = 2)))) rfl) (wl_gd0 rfl rfl (fun q => r_ldB h 6 rfl One125 rfl rfl) (wl_gd0 rfl rfl (fun q => r_fieldAddr Fld51x1 rfl) ?_))))))))))))))))))))
        refine wl_gd0 rfl rfl (fun q => r_ldB h 14 rfl One3 (gvt q) rfl) (wl_gd0 rfl rfl (fun q => r_lk1 (f := (fun x => Value.bool x)) (zz := false) y33 h 5 rfl MapOf125 (gvt q) (gvt q) rfl rfl) (wl_gd0 rfl rfl (fun q => r_notb (gvt q)) (wl_ok (r_pand rfl rfl evc) (wl_nil (then_normal (wc_ifb hs rfl (fun c51 hs => ?_) (fun c51 hs => ?_)))))))
        ·
         refine wc_seq (wc_region (wl_ok (r_ldB h 6 rfl One125 rfl rfl) (wl_ok (r_fieldAddr Fld51x1 rfl) (wl_ok (r_ldB h 14 rfl One3 rfl rfl) (w_mapUpdate (ents' := (List.map (fun p => (p.1, (fun x => Value.bool x) p.2)) (lput x36.n true y33))) h 5 rfl MapOf125 rfl rfl rfl (aset_lput (f := (fun x => Value.bool x)) _) fun w h => wl_nil (then_normal (wc_region (wl_ok (r_ldB h 7 rfl One27 rfl rfl) (wl_ok (r_fieldAddr Fld51x1 rfl) (wl_ok (r_ldB h 14 rfl One3 rfl rfl) (w_bs (R := rInt) (vs := [(.int .i64 (x36.n))]) (xs := [x36.n]) h 15 ElemOf27 rfl rfl rfl ⟨rfl, trivial⟩ rfl fun w u52 h => ?_)))))))))))
         obtain ⟨a53, hs⟩ := o_grd hs
         refine w_app (R := rInt) (m := [x36.n]) h 11 rfl (h.ownS 15 rfl) ElemOf27 rfl rfl rfl a53.1 a53.2 fun w u54 h => w_st1 h 7 [u54] rfl One27 rfl rfl rfl rfl (h.ownAt 11 rfl).one fun w h => wl_nil (fin0n Tryz.results82 (⟨_, rfl, ?_⟩))
         refine wl_nil (inBlock_normal (then_loop ?_))
         exact jend (u54, (y32 ++ [x36.n]), (lput x36.n true y33)) ⟨h.cn _, hs⟩
        ·
         refine wc_skip (fin0n Tryz.results82 (⟨_, rfl, ?_⟩))
         refine wl_nil (inBlock_normal (then_loop ?_))
         exact jend (v31, y32, y33) ⟨h.cn _, hs⟩
      ·
       rw [drop_ge (hik ▸ e39), each_nil] at hs
       refine wc_exit (then_exit (then_exit (inBlock_eq (then_normal (wc_seq (wc_seq (wc_region (wl_ok (r_assign (v := (.int .i64 (0))) rfl) (wl_nil (then_normal (wc_block (wc_lp (σ := Nat × Int × Value × List Int × List (Int × Bool)) (inl [15, 17, 52, 53, 54, 55, 56, 57, 58, 59, 60, 61, 62, 63, 64, 65, 66, 67, 68, 69, 70, 71, 72, 73]) (fun ⟨m74, x67, v68, y69, y70⟩ => [(15, (.int .i64 (x67)))]) (fun ⟨m74, x67, v68, y69, y70⟩ w => SH w0 M BE w (hset [(1, .sr (rSl rVal) va a), (5, .mp b19 (List.map (fun p => (p.1, (fun x => Value.bool x) p.2)) y70)), (6, .blk b20 [(.map (some b19))]), (7, .blk b21 [v68]), (11, .own rInt 3 v68 y69)]) ∧ again (cell_Reach_b72 a) m74 (x67, y69, y70) = some r) (fun ⟨m74, x67, v68, y69, y70⟩ => m74) ⟨N, 0, v31, y32, y33⟩ ⟨rfl, trivial⟩ ?_ ?_))))))))))))
       ·
        exact ⟨h.cn _, hs⟩
       ·
        rintro ⟨m74, x67, v68, y69, y70⟩ w junk ⟨h, hs⟩
        obtain ⟨m741, m74e, m74h⟩ := again_pos hs
        subst m74e
        replace hs := m74h
        generalize hnx75 : again (cell_Reach_b72 a) m741 = nx75 at hs
        refine wc_seq (wc_seq (wc_region (wl_ok (r_move (v := (.int .i64 (x67))) rfl) (wl_ok (r_ldB h 7 rfl One27 rfl rfl) (wl_ok (r_len SliceOf27 rfl (h.ownS 11 rfl)) (wl_ok (r_lss rfl rfl) (wl_nil (then_normal (wc_ifb hs rfl (fun c78 hs => ?_) (fun c78 hs => ?_))))))))))
        ·
         refine wc_skip (then_normal (wc_seq (wc_block (wc_seq (wc_region (wl_ok (r_move (v := va) rfl) (wl_ok (r_ldB h 7 rfl One27 rfl rfl) (wl_ok (r_move (v := (.int .i64 (x67))) rfl) ?_))))))))
         obtain ⟨x79, e80, hs⟩ := o_bind hs
         obtain ⟨b82, q83, i81⟩ := h.ixO 11 rfl SliceOf27 rfl (o_idx e80).1 (o_idx e80).2
         refine wl_ok (i81 _ _ _ _ _ _ _ _ _ rfl rfl) ?_
         obtain ⟨cs84, m85, r86⟩ := h.elO 11 rfl q83 (o_idx e80).2
         obtain rfl := r86
         refine wl_ok (r_ldA (k := 0) m85 One3 rfl rfl) ?_
         obtain ⟨x87, e88, hs⟩ := o_bind hs
         obtain ⟨b90, o91, cs92, h, r93, i89⟩ := h.ixS 1 16 rfl SliceOf24 rfl (o_idx e88).1 (o_idx e88).2
         obtain ⟨u94, rfl, g95⟩ := r93
         replace h := h.knowRd 17 g95.up
         refine wl_ok (i89 _ _ _ _ _ _ _ _ _ rfl rfl) (wl_ok (r_ldP (k := 0) h 16 rfl One47 rfl rfl) (wl_ok (r_len SliceOf47 rfl (h.rdS 17 rfl)) (wl_ok (r_move (v := (.int .i64 (0))) rfl) (wl_nil (then_normal (wc_block (wc_lp (σ := Nat × Int × Value × List Int × List (Int × Bool)) (inl [17, 66, 67, 68, 69, 70, 71, 72, 73]) (fun ⟨k108, i109, v105, y106, y107⟩ => [(66, (.int .i64 (i109)))]) (fun ⟨k108, i109, v105, y106, y107⟩ w => SH w0 M BE w (hset [(1, .sr (rSl rVal) va a), (5, .mp b19 (List.map (fun p => (p.1, (fun x => Value.bool x) p.2)) y107)), (6, .blk b20 [(.map (some b19))]), (7, .blk b21 [v105]), (11, .own rInt 3 v105 y106), (17, .rd rVal u94 x87)]) ∧ i109 = (k108 : Int) ∧ each cell_Reach_b70 (cell_Reach_k71 x67 nx75) (x87.drop k108) (y106, y107) = some r) (fun ⟨k108, i109, v105, y106, y107⟩ => x87.length - k108) ⟨0, 0, v68, y69, y70⟩ ⟨rfl, trivial⟩ ?_ ?_)))))))
         ·
          exact ⟨h.cn _, rfl, hs⟩
         ·
          rintro ⟨k108, i109, v105, y106, y107⟩ w junk ⟨h, hik, hs⟩
          refine wc_seq (wc_region ?_)
          refine wl_ok (r_lss rfl rfl) (wl_nil (then_normal ?_))
          refine wc_seq (wc_if rfl (fun e113 => ?_) (fun e113 => ?_))
          ·
           refine wc_skip (then_normal ?_)
           obtain ⟨x110, e114a, e114b⟩ := drop_lt (hik ▸ e113)
           rw [e114b, each_cons] at hs
           generalize hnx112 : each cell_Reach_b70 (cell_Reach_k71 x67 nx75) (x87.drop (k108 + 1)) = nx112 at hs
           have e114r := nat_rng ((h.rdS 17 rfl)).len_le hik e113
           refine wc_join (σ := Value × List Int × List (Int × Bool)) (inl [17, 68, 69, 70, 71, 72]) (fun ⟨v115, y116, y117⟩ => []) (fun ⟨v115, y116, y117⟩ w => SH w0 M BE w (hset [(1, .sr (rSl rVal) va a), (5, .mp b19 (List.map (fun p => (p.1, (fun x => Value.bool x) p.2)) y117)), (6, .blk b20 [(.map (some b19))]), (7, .blk b21 [v115]), (11, .own rInt 3 v115 y116), (17, .rd rVal u94 x87)]) ∧ cell_Reach_j69 nx112 y116 y117 = some r) ?_ ?_
           ·
            rintro ⟨v115, y116, y117⟩ w junk ⟨h, hs⟩
            refine wc_region (wl_ok (r_add rfl rfl e114r) (wl_ok (r_move (v := (.int .i64 ((i109 + 1)))) rfl) (wl_nil (then_loop ?_))))
            subst hnx112
            exact lend ⟨k108 + 1, i109 + 1, v115, y116, y117⟩ ⟨h.cn _, by omega, hs⟩ (by have := of_decide_eq_true e113; dsimp only; omega)
           ·
            refine wc_block (wc_seq (wc_region ?_))
            obtain ⟨b119, o120, cs121, h, r122, i118⟩ := h.ixR 17 18 rfl SliceOf47 rfl (nat_nn hik) (get_nat hik e114a)
            obtain rfl := r122
            refine wl_ok (i118 _ _ _ _ _ _ _ _ _ rfl rfl) (wl_ok (r_ldPN (k := 0) (vs := [(.int .i64 (x110.kind)), (.int .i64 (x110.n))]) h 18 rfl Many51 rfl rfl rfl (Nat.le_of_ble_eq_true rfl)) (w_allocN h 19 Many51 fun w b123 h => w_stN (vs := [(.int .i64 (x110.kind)), (.int .i64 (x110.n))]) h 19 [(.int .i64 (x110.kind)), (.int .i64 (x110.n))] rfl Many51 rfl rfl rfl rfl rfl (ones_cons rfl (ones_cons rfl ones_nil)) fun w h => wl_nil (then_normal (wc_region (wl_ok (r_move (v := (.func (.func 82) #[] #[(.pointer (some ⟨b20, 0, none⟩)), (.pointer (some ⟨b21, 0, none⟩))])) rfl) (wl_ok (r_ldBN (vs := [(.int .i64 (x110.kind)), (.int .i64 (x110.n))]) h 19 rfl Many51 rfl rfl rfl) (w_callIn (args := [(.agg #[(.int .i64 (x110.kind)), (.int .i64 (x110.n))]), (.pointer (some ⟨b20, 0, none⟩)), (.pointer (some ⟨b21, 0, none⟩))]) fnOk82 rfl rfl (calls_start (args := [(.agg #[(.int .i64 (x110.kind)), (.int .i64 (x110.n))]), (.pointer (some ⟨b20, 0, none⟩)), (.pointer (some ⟨b21, 0, none⟩))]) Tryz.func82 rfl Tryz.ntmps82 (Nat.le_of_ble_eq_true rfl) (wc_seq (wc_region (w_box (cs := [(.int .i64 (x110.kind)), (.int .i64 (x110.n))]) h 20 rfl rfl fun w b124 h => wl_nil (then_normal (wc_seq (wc_region (wl_ok (r_fieldAddr Fld51x0 rfl) (wl_ok (r_ldB h 20 rfl One3 rfl rfl) (wl_ok (r_eql rfl rfl) (wl_ok (r_move (v := (.bool (decide ((x110.kind : Int) = 2)))) rfl) (wl_gd0 rfl rfl (fun q => r_ldB h 6 rfl One125 rfl rfl) (wl_gd0 rfl rfl (fun q => r_fieldAddr Fld51x1 rfl) ?_))))))))))))))))))))
            refine wl_gd0 rfl rfl (fun q => r_ldB h 20 rfl One3 (gvt q) rfl) (wl_gd0 rfl rfl (fun q => r_lk1 (f := (fun x => Value.bool x)) (zz := false) y107 h 5 rfl MapOf125 (gvt q) (gvt q) rfl rfl) (wl_gd0 rfl rfl (fun q => r_notb (gvt q)) (wl_ok (r_pand rfl rfl evc) (wl_nil (then_normal (wc_ifb hs rfl (fun c125 hs => ?_) (fun c125 hs => ?_)))))))
            ·
             refine wc_seq (wc_region (wl_ok (r_ldB h 6 rfl One125 rfl rfl) (wl_ok (r_fieldAddr Fld51x1 rfl) (wl_ok (r_ldB h 20 rfl One3 rfl rfl) (w_mapUpdate (ents' := (List.map (fun p => (p.1, (fun x => Value.bool x) p.2)) (lput x110.n true y107))) h 5 rfl MapOf125 rfl rfl rfl (aset_lput (f := (fun x => Value.bool x)) _) fun w h => wl_nil (then_normal (wc_region (wl_ok (r_ldB h 7 rfl One27 rfl rfl) (wl_ok (r_fieldAddr Fld51x1 rfl) (wl_ok (r_ldB h 20 rfl One3 rfl rfl) (w_bs (R := rInt) (vs := [(.int .i64 (x110.n))]) (xs := [x110.n]) h 21 ElemOf27 rfl rfl rfl ⟨rfl, trivial⟩ rfl fun w u126 h => ?_)))))))))))
             obtain ⟨a127, hs⟩ := o_grd hs
             refine w_app (R := rInt) (m := [x110.n]) h 11 rfl (h.ownS 21 rfl) ElemOf27 rfl rfl rfl a127.1 a127.2 fun w u128 h => w_st1 h 7 [u128] rfl One27 rfl rfl rfl rfl (h.ownAt 11 rfl).one fun w h => wl_nil (fin0n Tryz.results82 (⟨_, rfl, ?_⟩))
             refine wl_nil (inBlock_normal (then_loop ?_))
             exact jend (u128, (y106 ++ [x110.n]), (lput x110.n true y107)) ⟨h.cn _, hs⟩
            ·
             refine wc_skip (fin0n Tryz.results82 (⟨_, rfl, ?_⟩))
             refine wl_nil (inBlock_normal (then_loop ?_))
             exact jend (v105, y106, y107) ⟨h.cn _, hs⟩
          ·
           rw [drop_ge (hik ▸ e113), each_nil] at hs
           refine wc_exit (then_exit (then_exit (inBlock_eq (inBlock_normal (then_normal (wc_region (wl_ok (r_move (v := (.int .i64 (x67))) rfl) ?_)))))))
           obtain ⟨a129, hs⟩ := o_grd hs
           refine wl_ok (r_add rfl rfl a129) (wl_ok (r_assign (v := (.int .i64 ((x67 + 1)))) rfl) (wl_nil (then_loop ?_)))
           subst hnx75
           exact lend ⟨m741, (x67 + 1), v105, y106, y107⟩ ⟨h.cn _, hs⟩
        ·
         refine wc_exit (then_exit (then_exit (inBlock_eq (then_normal (wc_seq (wc_region (wl_ok (r_ldB h 7 rfl One27 rfl rfl) (wl_ok (r_assign (v := v68) rfl) (wl_ok (r_assign (v := (.int .i64 (0))) rfl) (wl_nil (then_normal (wc_ret (fin2 (v1 := v68) (v2 := (.int .i64 (0))) Tryz.results48 rfl rfl ?_)))))))))))))
         obtain rfl := Option.some.inj hs
         exact ⟨h.grown, _, rfl, (h.outOwn 11 rfl).1, (h.outOwn 11 rfl).2⟩
def vmTurn_j3 (nx9 : List Val → Option (List Val)) (x12 : List Val) : Option (List Val) :=
  nx9 x12
def vmTurn_b4 (mL : List (Int × Int)) (i6 : Int) (x4 : List Val) (nx9 : List Val → Option (List Val)) : Option (List Val) :=
  (idx x4 i6).bind fun x13 => bif decide ((x13.kind : Int) = 2) then vmTurn_j3 nx9 (x4.set (i6).toNat { x13 with n := ((lk x13.n mL).getD (0 : Int)) }) else vmTurn_j3 nx9 x4
def vmTurn_k5 (x4 : List Val) : Option (List Val) :=
  some x4
def vmTurn (sx : List Val) (mL : List (Int × Int)) : Option (List Val) :=
  upto (vmTurn_b4 mL) vmTurn_k5 0 ((sx.length : Int)).toNat sx
theorem vmTurn_c (w0 : World) (M : BS) (hM : ∀ b, M b → b < w0.heap.size) (bq bm : Nat) (sv : Value) (sx : List Val) (hC : Chunk.holds w0 M (Chunk.own' (.own rVal 51 sv sx : Chunk)) (.own rVal 51 sv sx : Chunk)) (hap : ∀ b, Chunk.own' (.own rVal 51 sv sx : Chunk) b → ¬ M b) (mL : List (Int × Int)) (hbm : MapIs w0 bm (List.map (fun p => (p.1, (fun x => Value.int .i64 x) p.2)) mL)) (nbm : ¬ Chunk.own' (.own rVal 51 sv sx : Chunk) bm) (hbq : ∃ E, w0.heap[bq]? = some (.cells #[(.map (some bm))] E (0, 0))) (nbq : ¬ Chunk.own' (.own rVal 51 sv sx : Chunk) bq) (r : List Val) (hs : vmTurn sx mL = some r) :
    Calls Tryz.prog 50 #[sv, (.pointer (some ⟨bq, 0, none⟩))] w0 (fun e w' => Keep (Chunk.own' (.own rVal 51 sv sx : Chunk)) w0 w' ∧ e = .returned (.tuple #[]) ∧ Chunk.holds w' M (Chunk.own' (.own rVal 51 sv r : Chunk)) (.own rVal 51 sv r : Chunk) ∧ (∀ b, Chunk.own' (.own rVal 51 sv r : Chunk) b → b < w0.heap.size → Chunk.own' (.own rVal 51 sv sx : Chunk) b)) := by
 refine calls_start (args := [sv, (.pointer (some ⟨bq, 0, none⟩))]) Tryz.func50 rfl Tryz.ntmps50 (Nat.le_of_ble_eq_true rfl) ?_
 have h := SH.init1 hM hC hap
 replace h := h.argPtC 3 (cs := [(.map (some bm))]) hbq nbq own1
 have nbqK := nbq
 have nbmK := nbm
 generalize hK0 : (.own rVal 51 sv sx : Chunk).own' = K0 at h nbqK nbmK
 refine wc_seq (wc_region (wl_ok (r_move (v := sv) rfl) (wl_ok (r_len SliceOf47 rfl (h.ownS 1 rfl)) (wl_ok (r_move (v := (.int .i64 (0))) rfl) (wl_nil (then_normal (wc_block ?_)))))))
 have hli6 := (h.ownS 1 rfl).len_le
 refine wc_lp (σ := Nat × Int × List Val) (inl [3, 4, 7, 8, 9, 10, 11, 12, 13, 14, 15, 16, 17, 18, 19, 20, 21, 22, 23]) (fun ⟨k5, i6, x4⟩ => [(7, (.int .i64 (i6)))]) (fun ⟨k5, i6, x4⟩ w => SH w0 M K0 w (hset [(1, .own rVal 51 sv x4), (2, .no), (3, .pt bq 0 [(.map (some bm))])]) ∧ i6 = (k5 : Int) ∧ upto (vmTurn_b4 mL) vmTurn_k5 i6 (((sx.length : Int)).toNat - k5) x4 = some r) (fun ⟨k5, i6, x4⟩ => ((sx.length : Int)).toNat - k5) ⟨0, 0, sx⟩ ⟨rfl, trivial⟩ ?_ ?_
 ·
  exact ⟨h.cn _, rfl, hs⟩
 ·
  rintro ⟨k5, i6, x4⟩ w junk ⟨h, hik, hs⟩
  refine wc_seq (wc_region ?_)
  refine wl_ok (r_lss rfl rfl) (wl_nil (then_normal ?_))
  refine wc_seq (wc_if rfl (fun e10 => ?_) (fun e10 => ?_))
  ·
   refine wc_skip (then_normal ?_)
   rw [upto_lt (by have := of_decide_eq_true e10; omega)] at hs
   generalize hnx9 : upto (vmTurn_b4 mL) vmTurn_k5 (i6 + 1) (((sx.length : Int)).toNat - (k5 + 1)) = nx9 at hs
   have e11r : I64 (i6 + 1) := (by have := of_decide_eq_true e10; have := hli6; exact I64.mk (by omega) (by omega))
   refine wc_join (σ := List Val) (inl [3, 4, 9, 10, 11, 12, 13, 14, 15, 16, 17, 18, 19, 20, 21, 22]) (fun x12 => []) (fun x12 w => SH w0 M K0 w (hset [(1, .own rVal 51 sv x12), (2, .no), (3, .pt bq 0 [(.map (some bm))])]) ∧ vmTurn_j3 nx9 x12 = some r) ?_ ?_
   ·
    rintro x12 w junk ⟨h, hs⟩
    refine wc_region (wl_ok (r_add rfl rfl e11r) (wl_ok (r_move (v := (.int .i64 ((i6 + 1)))) rfl) (wl_nil (then_loop ?_))))
    subst hnx9
    exact lend ⟨k5 + 1, i6 + 1, x12⟩ ⟨h.cn _, by omega, hs⟩ (by have := of_decide_eq_true e10; dsimp only; omega)
   ·
    refine wc_block (wc_seq (wc_region (wl_ok (r_move (v := (.int .i64 (i6))) rfl) ?_)))
    obtain ⟨x13, e14, hs⟩ := o_bind hs
    obtain ⟨b16, q17, i15⟩ := h.ixO 1 rfl SliceOf47 rfl (o_idx e14).1 (o_idx e14).2
    refine wl_ok (i15 _ _ _ _ _ _ _ _ _ rfl rfl) ?_
    obtain ⟨cs18, m19, r20⟩ := h.elO 1 rfl q17 (o_idx e14).2
    obtain rfl := r20
    refine wl_ok (r_ldAN (k := 0) (vs := [(.int .i64 (x13.kind)), (.int .i64 (x13.n))]) m19 Many51 rfl rfl rfl (Nat.le_of_ble_eq_true rfl)) (w_allocN h 4 Many51 fun w b21 h => wl_ok (r_assign (v := (.int .i64 (i6))) rfl) (w_stN (vs := [(.int .i64 (x13.kind)), (.int .i64 (x13.n))]) h 4 [(.int .i64 (x13.kind)), (.int .i64 (x13.n))] rfl Many51 rfl rfl rfl rfl rfl (ones_cons rfl (ones_cons rfl ones_nil)) fun w h => wl_nil (then_normal (wc_seq (wc_region (wl_ok (r_fieldAddr Fld51x0 rfl) (wl_ok (r_ldB h 4 rfl One3 rfl rfl) (wl_ok (r_eql rfl rfl) (wl_nil (then_normal (wc_ifb hs rfl (fun c22 hs => ?_) (fun c22 hs => ?_))))))))))))
    ·
     refine wc_region (wl_ok (r_move (v := sv) rfl) (wl_ok (r_move (v := (.int .i64 (i6))) rfl) (wl_ok (r_ldP (k := 0) h 3 rfl One89 rfl rfl) (wl_ok (r_fieldAddr Fld51x1 rfl) (wl_ok (r_ldB h 4 rfl One3 rfl rfl) (wl_ok (r_lk1M (f := (fun x => Value.int .i64 x)) (zz := (0 : Int)) mL ((hbm).keep h.keep nbmK) MapOf89 rfl rfl rfl) ?_))))))
     obtain ⟨b24, q25, i23⟩ := h.ixO 1 rfl SliceOf47 rfl (o_idx e14).1 (o_idx e14).2
     refine wl_ok (i23 _ _ _ _ _ _ _ _ _ rfl rfl) (wl_ok (r_fieldAddr Fld51x1 rfl) (w_stO (a' := { x13 with n := ((lk x13.n mL).getD (0 : Int)) }) h 1 rfl q25 rfl (o_idx e14).2 One3 rfl rfl rfl rfl (by rintro _ rfl; rfl) fun w h => wl_nil (inBlock_normal (then_loop ?_))))
     exact jend (x4.set (i6).toNat { x13 with n := ((lk x13.n mL).getD (0 : Int)) }) ⟨h.cn _, hs⟩
    ·
     refine wc_skip (inBlock_normal (then_loop ?_))
     exact jend x4 ⟨h.cn _, hs⟩
  ·
   rw [upto_ge (by have := of_decide_eq_false e10; omega)] at hs
   refine wc_exit (then_exit (then_exit (inBlock_eq (fin0n Tryz.results50 ?_))))
   obtain rfl := Option.some.inj hs
   subst hK0
   obtain ⟨o1, o2, o3⟩ := h.outS 1 (C := (.own rVal 51 sv x4 : Chunk)) rfl trivial
   exact ⟨o2, rfl, o1, o3⟩
def vm_Sweep_b9 (y65 : List (Int × Int)) (i127 : Int) (x125 : List (List Val)) (nx130 : List (List Val) → Option LX.State) : Option LX.State :=
  (idx x125 i127).bind fun x133 => (vmTurn x133 y65).bind fun y144 => nx130 (x125.set (i127).toNat y144)
def vm_Sweep_k10 (x97 : List LX.Frame) (y35 : LX.State) (x125 : List (List Val)) : Option LX.State :=
  some (⟨x97, x125, y35.status, y35.wher⟩ : LX.State)
def vm_Sweep_b11 (y65 : List (Int × Int)) (i99 : Int) (x97 : List LX.Frame) (nx102 : List LX.Frame → Option LX.State) : Option LX.State :=
  (idx x97 i99).bind fun x105 => (vmTurn x105.regs y65).bind fun y117 => nx102 (x97.set (i99).toNat ({ x105 with regs := y117 }))
def vm_Sweep_k12 (y65 : List (Int × Int)) (y35 : LX.State) (x63 : List (List Val)) (x97 : List LX.Frame) : Option LX.State :=
  upto (vm_Sweep_b9 y65) (vm_Sweep_k10 x97 y35) 0 ((x63.length : Int)).toNat x63
def vm_Sweep_b13 (y35 : LX.State) (i67 : Int) (x68 : Int) (s : List (List Val) × List Int × List (Int × Int)) (nx70 : List (List Val) × List Int × List (Int × Int) → Option LX.State) : Option LX.State :=
  match s with | (x63, y64, y65) => (idx y35.cells x68).bind fun x78 => grd (x68 ∉ y64) (grd (Room 24 x63 [x78]) (nx70 ((x63 ++ [x78]), (y64 ++ [x68]), (lput x68 i67 y65))))
def vm_Sweep_k14 (y35 : LX.State) (s : List (List Val) × List Int × List (Int × Int)) : Option LX.State :=
  match s with | (x63, y64, y65) => upto (vm_Sweep_b11 y65) (vm_Sweep_k12 y65 y35 x63) 0 ((y35.frames.length : Int)).toNat y35.frames
def vm_Sweep_b15 (x13 : LX.Frame) (x10 : List Val) (nx15 : List Val → Option LX.State) : Option LX.State :=
  grd (Room 16 x10 x13.regs) (nx15 (x10 ++ x13.regs))
def vm_Sweep_k16 (N : Nat) (a : LX.State) (x10 : List Val) : Option LX.State :=
  (cell_Reach N a.cells x10).bind fun y28 => bif decide ((y28.2 : Int) ≠ 0) then none else (vm_Copy a).bind fun y35 => eachI (vm_Sweep_b13 y35) (vm_Sweep_k14 y35) 0 y28.1 ([], ([] : List Int), ([] : List (Int × Int)))
def vm_Sweep (N : Nat) (a : LX.State) : Option LX.State :=
  each vm_Sweep_b15 (vm_Sweep_k16 N a) a.frames []
theorem vm_Sweep_c (N : Nat) (w0 : World) (M : BS) (hM : ∀ b, M b → b < w0.heap.size) (a : LX.State) (va0 va1 : Value) (ha0 : Rd2 rFrame w0 BE M va0 a.frames) (ha1 : Rd2 (rSl rVal) w0 BE M va1 a.cells) (r : LX.State) (hs : vm_Sweep N a = some r) :
    Calls Tryz.prog 20 #[(.agg #[va0, va1, (.int .i64 (a.status)), (.int .i64 (a.wher))])] w0 (fun e w' => Grow w0 w' ∧ ∃ u0_0, ∃ u0_1, ∃ w0_0, ∃ w0_1, e = .returned (.agg #[u0_0, u0_1, .int .i64 r.status, .int .i64 r.wher]) ∧ Chunk.holds w' M (Chunk.own' ((.two (.two (.two (.own nFrame.raw 49 u0_0 (List.zip r.frames w0_0)) (.pce (famS rVal 51 hn w0_0 (List.map nFrame.sub r.frames)))) (.own (nLst Val).raw 47 u0_1 (List.zip r.cells w0_1))) (.pce (famS rVal 51 hn w0_1 (List.map (nLst Val).sub r.cells)))) : Chunk)) ((.two (.two (.two (.own nFrame.raw 49 u0_0 (List.zip r.frames w0_0)) (.pce (famS rVal 51 hn w0_0 (List.map nFrame.sub r.frames)))) (.own (nLst Val).raw 47 u0_1 (List.zip r.cells w0_1))) (.pce (famS rVal 51 hn w0_1 (List.map (nLst Val).sub r.cells)))) : Chunk) ∧ (∀ b, Chunk.own' ((.two (.two (.two (.own nFrame.raw 49 u0_0 (List.zip r.frames w0_0)) (.pce (famS rVal 51 hn w0_0 (List.map nFrame.sub r.frames)))) (.own (nLst Val).raw 47 u0_1 (List.zip r.cells w0_1))) (.pce (famS rVal 51 hn w0_1 (List.map (nLst Val).sub r.cells)))) : Chunk) b → w0.heap.size ≤ b)) := by
 refine calls_start (args := [(.agg #[va0, va1, (.int .i64 (a.status)), (.int .i64 (a.wher))])]) Tryz.func20 rfl Tryz.ntmps20 (Nat.le_of_ble_eq_true rfl) ?_
 have h := SH.init hM
 replace h := h.argSr 1 ha0 none_own
 replace h := h.argSr 2 ha1 (hupd_own_sr none_own)
 refine wc_seq (wc_region (w_box (cs := [va0, va1, (.int .i64 (a.status)), (.int .i64 (a.wher))]) h 3 rfl rfl fun w b1 h => w_allocN h 4 Many26 fun w b2 h => wl_nil (then_normal (wc_seq (wc_region (wl_ok (r_assign (v := (.slice none 0 0)) rfl) (wl_nil (then_normal (wc_seq (wc_seq (wc_region (wl_ok (r_fieldAddr Fld26x0 rfl) (wl_ok (r_ldB h 3 rfl One23 rfl rfl) (wl_ok (r_len SliceOf23 rfl (h.srS 1 rfl)) (wl_ok (r_move (v := (.int .i64 (0))) rfl) (wl_nil (then_normal (wc_block ?_))))))))))))))))))
 replace h := h.nilO (R := rVal) (E := 51) 8
 refine wc_lp (σ := Nat × Int × Value × List Val) (inl [3, 5, 20, 21, 22, 23, 24, 25, 26, 27, 28]) (fun ⟨k11, i12, v9, x10⟩ => [(3, v9), (20, (.int .i64 (i12)))]) (fun ⟨k11, i12, v9, x10⟩ w => SH w0 M BE w (hset [(1, .sr rFrame va0 a.frames), (2, .sr (rSl rVal) va1 a.cells), (3, .blk b1 [va0, va1, (.int .i64 (a.status)), (.int .i64 (a.wher))]), (4, .blk b2 [(.slice none 0 0), (.slice none 0 0), (.int .i64 (0)), (.int .i64 (0))]), (8, .own rVal 51 v9 x10)]) ∧ i12 = (k11 : Int) ∧ each vm_Sweep_b15 (vm_Sweep_k16 N a) (a.frames.drop k11) x10 = some r) (fun ⟨k11, i12, v9, x10⟩ => a.frames.length - k11) ⟨0, 0, (.slice none 0 0), []⟩ ⟨rfl, rfl, trivial⟩ ?_ ?_
 ·
  exact ⟨h.cn _, rfl, hs⟩
 ·
  rintro ⟨k11, i12, v9, x10⟩ w junk ⟨h, hik, hs⟩
  refine wc_seq (wc_region ?_)
  refine wl_ok (r_lss rfl rfl) (wl_nil (then_normal ?_))
  refine wc_seq (wc_if rfl (fun e16 => ?_) (fun e16 => ?_))
  ·
   refine wc_skip (then_normal ?_)
   obtain ⟨x13, e17a, e17b⟩ := drop_lt (hik ▸ e16)
   rw [e17b, each_cons] at hs
   generalize hnx15 : each vm_Sweep_b15 (vm_Sweep_k16 N a) (a.frames.drop (k11 + 1)) = nx15 at hs
   have e17r := nat_rng ((h.srS 1 rfl)).len_le hik e16
   refine wc_seq (wc_block (wc_seq (wc_region ?_)))
   obtain ⟨b19, o20, cs21, h, r22, i18⟩ := h.ixS 1 9 rfl SliceOf23 rfl (nat_nn hik) (get_nat hik e17a)
   obtain ⟨u23, rfl, g24⟩ := rFrame_open r22
   replace h := h.knowRd 10 g24.up
   refine wl_ok (i18 _ _ _ _ _ _ _ _ _ rfl rfl) (wl_ok (r_ldPN (k := 0) (vs := [(.int .i64 (x13.proc)), (.int .i64 (x13.at_)), u23, (.int .i64 (x13.to_))]) h 9 rfl Many49 rfl rfl rfl (Nat.le_of_ble_eq_true rfl)) (w_allocN h 11 Many49 fun w b25 h => w_stN (vs := [(.int .i64 (x13.proc)), (.int .i64 (x13.at_)), u23, (.int .i64 (x13.to_))]) h 11 [(.int .i64 (x13.proc)), (.int .i64 (x13.at_)), u23, (.int .i64 (x13.to_))] rfl Many49 rfl rfl rfl rfl rfl (ones_cons rfl (ones_cons rfl (ones_cons (h.rdAt 10 rfl).one (ones_cons rfl ones_nil)))) fun w h => wl_nil (then_normal (wc_region (wl_ok (r_move (v := v9) rfl) (wl_ok (r_fieldAddr Fld49x2 rfl) (wl_ok (r_ldB h 11 rfl One47 rfl rfl) ?_)))))))
   obtain ⟨a26, hs⟩ := o_grd hs
   refine w_app (R := rVal) (m := x13.regs) h 8 rfl (h.rdS 10 rfl) ElemOf47 rfl rfl rfl a26.1 a26.2 fun w u27 h => wl_ok (r_assign (v := u27) rfl) (wl_nil (inBlock_normal (then_normal (wc_region (wl_ok (r_add rfl rfl e17r) (wl_ok (r_move (v := (.int .i64 ((i12 + 1)))) rfl) (wl_nil (then_loop ?_))))))))
   subst hnx15
   exact lend ⟨k11 + 1, i12 + 1, u27, (x10 ++ x13.regs)⟩ ⟨h.cn _, by omega, hs⟩ (by have := of_decide_eq_true e16; dsimp only; omega)
  ·
   rw [drop_ge (hik ▸ e16), each_nil] at hs
   refine wc_exit (then_exit (then_exit (inBlock_eq (then_normal (wc_seq (wc_region (wl_ok (r_fieldAddr Fld26x1 rfl) (wl_ok (r_ldB h 3 rfl One24 rfl rfl) (wl_ok (r_move (v := v9) rfl) ?_)))))))))
   obtain ⟨y28, e29, hs⟩ := o_bind hs
   refine w_call fnOk48 rfl rfl (cell_Reach_c N _ _ h.lt va1 a.cells (h.srS 2 rfl) v9 x10 (h.ownS 8 rfl) _ e29) ?_
   rintro _ w ⟨k33, u30, rfl, g31, g32⟩
   refine ⟨_, rfl, ?_⟩
   replace h := h.gotOwn 12 k33 g31 g32
   refine wl_ok (r_move (v := (.tuple #[u30, (.int .i64 (y28.2))])) rfl) (wl_ok (r_extract rfl rfl) (wl_ok (r_extract rfl rfl) (wl_ok (r_assign (v := u30) rfl) (wl_ok (r_assign (v := (.int .i64 (y28.2))) rfl) (wl_nil (then_normal (wc_seq (wc_seq (wc_region (wl_ok (r_move (v := (.int .i64 (y28.2))) rfl) (wl_ok (r_neq rfl rfl) (wl_nil (then_normal (wc_ifb hs rfl (fun c34 hs => ?_) (fun c34 hs => ?_)))))))))))))))
   ·
    refine wc_seq (wc_region (wl_ok (r_ldBN (vs := [va0, va1, (.int .i64 (a.status)), (.int .i64 (a.wher))]) h 3 rfl Many26 rfl rfl rfl) (w_stN (vs := [va0, va1, (.int .i64 (a.status)), (.int .i64 (a.wher))]) h 4 [va0, va1, (.int .i64 (a.status)), (.int .i64 (a.wher))] rfl Many26 rfl rfl rfl rfl rfl (ones_cons (h.srAt 1 rfl).one (ones_cons (h.srAt 2 rfl).one (ones_cons rfl (ones_cons rfl ones_nil)))) fun w h => wl_nil (then_normal (wc_ret (then_ret ?_))))))
    cases hs
   ·
    refine wc_skip (then_normal (wc_seq (wc_region (wl_ok (r_ldBN (vs := [va0, va1, (.int .i64 (a.status)), (.int .i64 (a.wher))]) h 3 rfl Many26 rfl rfl rfl) ?_))))
    obtain ⟨y35, e36, hs⟩ := o_bind hs
    refine w_call fnOk49 rfl rfl (vm_Copy_c _ _ h.lt a va0 va1 (h.srS 1 rfl) (h.srS 2 rfl) _ e36) ?_
    rintro _ w ⟨k43, u37, u39, us38, us40, rfl, h41, h42⟩
    refine ⟨_, rfl, ?_⟩
    replace h := h.gotC 13 (C := (.two (.two (.two (.own nFrame.raw 49 u37 (List.zip y35.frames us38)) (.pce (famS rVal 51 hn us38 (List.map nFrame.sub y35.frames)))) (.own (nLst Val).raw 47 u39 (List.zip y35.cells us40))) (.pce (famS rVal 51 hn us40 (List.map (nLst Val).sub y35.cells))) : Chunk)) k43 ⟨⟨⟨trivial, trivial⟩, trivial⟩, trivial⟩ h41 h42
    replace h := h.unpair 13 16 (by decide) rfl rfl
    replace h := h.unpair 13 15 (by decide) rfl rfl
    replace h := h.unpair 13 14 (by decide) rfl rfl
    refine w_stN (vs := [u37, u39, (.int .i64 (y35.status)), (.int .i64 (y35.wher))]) h 3 [u37, u39, (.int .i64 (y35.status)), (.int .i64 (y35.wher))] rfl Many26 rfl rfl rfl rfl rfl (ones_cons (h.ownAt 13 rfl).one (ones_cons (h.ownAt 15 rfl).one (ones_cons rfl (ones_cons rfl ones_nil)))) fun w h => wl_nil (then_normal (wc_seq (wc_region (w_makeMap h 17 fun w b44 h => w_alloc1 h 18 One89 fun w b45 h => w_st1 h 18 [(.map (some b44))] rfl One89 rfl rfl rfl rfl rfl fun w h => wl_nil (then_normal (wc_seq (wc_region (wl_ok (r_assign (v := (.slice none 0 0)) rfl) (wl_nil (then_normal (wc_seq (wc_seq (wc_region (wl_ok (r_move (v := u30) rfl) (wl_ok (r_len SliceOf27 rfl (h.ownS 12 rfl)) (wl_ok (r_move (v := (.int .i64 (0))) rfl) (wl_nil (then_normal (wc_block ?_)))))))))))))))))))
    replace h := h.freeze 12 rfl
    replace h := h.famMv0 16 rfl
    replace h := h.nilO (R := (nLst Val).raw) (E := 47) 25
    replace h := h.famNil (R := rVal) (Es := 51) 26
    refine wc_lp (σ := Nat × Int × Value × List Value × List (List Val) × List Int × List (Int × Int)) (inl [9, 10, 11, 44, 45, 46, 47, 48, 49, 50, 51, 52, 53, 54, 55, 56, 57, 58, 59, 60]) (fun ⟨k66, i67, v61, us62, x63, y64, y65⟩ => [(9, v61), (44, (.int .i64 (i67)))]) (fun ⟨k66, i67, v61, us62, x63, y64, y65⟩ w => SH w0 M BE w (hset [(3, .blk b1 [u37, u39, (.int .i64 (y35.status)), (.int .i64 (y35.wher))]), (4, .blk b2 [(.slice none 0 0), (.slice none 0 0), (.int .i64 (0)), (.int .i64 (0))]), (12, .rd rInt u30 y28.1), (13, .own nFrame.raw 49 u37 (List.zip y35.frames us38)), (14, .pce (famS rVal 51 hn us38 (List.map nFrame.sub y35.frames))), (15, .own (nLst Val).raw 47 u39 (List.zip y35.cells us40)), (16, .pce (famS rVal 51 (hmv y64) us40 (List.map (nLst Val).sub y35.cells))), (17, .mp b44 (List.map (fun p => (p.1, (fun x => Value.int .i64 x) p.2)) y65)), (18, .blk b45 [(.map (some b44))]), (25, .own (nLst Val).raw 47 v61 (List.zip x63 us62)), (26, .pce (famS rVal 51 hn us62 (List.map (nLst Val).sub x63)))]) ∧ i67 = (k66 : Int) ∧ eachI (vm_Sweep_b13 y35) (vm_Sweep_k14 y35) i67 (y28.1.drop k66) (x63, y64, y65) = some r) (fun ⟨k66, i67, v61, us62, x63, y64, y65⟩ => y28.1.length - k66) ⟨0, 0, (.slice none 0 0), ([] : List Value), [], ([] : List Int), ([] : List (Int × Int))⟩ ⟨rfl, rfl, trivial⟩ ?_ ?_
    ·
     exact ⟨h.cn _, rfl, hs⟩
    ·
     rintro ⟨k66, i67, v61, us62, x63, y64, y65⟩ w junk ⟨h, hik, hs⟩
     refine wc_seq (wc_region ?_)
     refine wl_ok (r_lss rfl rfl) (wl_nil (then_normal ?_))
     refine wc_seq (wc_if rfl (fun e71 => ?_) (fun e71 => ?_))
     ·
      refine wc_skip (then_normal ?_)
      obtain ⟨x68, e72a, e72b⟩ := drop_lt (hik ▸ e71)
      rw [e72b, eachI_cons] at hs
      generalize hnx70 : eachI (vm_Sweep_b13 y35) (vm_Sweep_k14 y35) (i67 + 1) (y28.1.drop (k66 + 1)) = nx70 at hs
      have e72r := nat_rng ((h.rdS 12 rfl)).len_le hik e71
      refine wc_seq (wc_block (wc_seq (wc_region (wl_ok (r_move (v := (.int .i64 (i67))) rfl) ?_))))
      obtain ⟨b74, o75, cs76, h, r77, i73⟩ := h.ixR 12 27 rfl SliceOf27 rfl (nat_nn hik) (get_nat hik e72a)
      obtain rfl := r77
      refine wl_ok (i73 _ _ _ _ _ _ _ _ _ rfl rfl) (wl_ok (r_ldP (k := 0) h 27 rfl One3 rfl rfl) (wl_ok (r_assign (v := (.int .i64 (i67))) rfl) (wl_ok (r_assign (v := (.int .i64 (x68))) rfl) (wl_nil (then_normal (wc_seq (wc_region (wl_ok (r_ldB h 18 rfl One89 rfl rfl) (wl_ok (r_move (v := (.int .i64 (x68))) rfl) (wl_ok (r_move (v := (.int .i64 (i67))) rfl) (w_mapUpdate (ents' := (List.map (fun p => (p.1, (fun x => Value.int .i64 x) p.2)) (lput x68 i67 y65))) h 17 rfl MapOf89 rfl rfl rfl (aset_lput (f := (fun x => Value.int .i64 x)) _) fun w h => wl_nil (then_normal (wc_region (wl_ok (r_move (v := v61) rfl) (wl_ok (r_fieldAddr Fld26x1 rfl) (wl_ok (r_ldB h 3 rfl One24 rfl rfl) (wl_ok (r_move (v := (.int .i64 (x68))) rfl) ?_)))))))))))))))))
      obtain ⟨x78, e79, hs⟩ := o_bind hs
      obtain ⟨a83, hs⟩ := o_grd hs
      obtain ⟨u84, e85, h⟩ := h.mvOpenL 16 28 x78 rfl rfl (by decide) (o_idx e79).1 (o_idx e79).2 a83 rfl
      obtain ⟨b81, q82, i80⟩ := h.ixO 15 rfl SliceOf24 rfl (o_idx e79).1 (zip_at (o_idx e79).2 e85)
      refine wl_ok (i80 _ _ _ _ _ _ _ _ _ rfl rfl) ?_
      obtain ⟨cs86, m87, r88⟩ := h.elO 15 rfl q82 (zip_at (o_idx e79).2 e85)
      obtain ⟨rfl, -⟩ := r88
      refine wl_ok (r_ldA (k := 0) m87 One47 rfl rfl) ?_
      have u89o : (Value.oneCell' u84) = true := (h.ownAt 28 rfl).one
      refine w_bs (R := (nLst Val).raw) (vs := [u84]) (xs := List.zip [x78] [u84]) h 29 ElemOf24 rfl rfl rfl ⟨⟨toList_of_one u89o, u89o⟩, trivial⟩ rfl fun w u89 h => ?_
      replace h := h.famNewL (N := (nLst Val)) 28 x78 rfl rfl
      obtain ⟨a90, hs⟩ := o_grd hs
      have z92 := h.dnLen 26 rfl
      have z92b := h.dnLen 28 rfl
      refine w_app (R := (nLst Val).raw) (m := List.zip [x78] [u84]) h 25 rfl (h.ownS 29 rfl) ElemOf24 rfl rfl rfl (by rw [zip_len z92, zip_len z92b]; exact a90.1) (by rw [zip_len z92, zip_len z92b]; exact a90.2) fun w u91 h => ?_
      replace h := (h.famJoin 26 28 rfl rfl (by decide)).dropC 29
      rw [zip_app z92, ← List.map_append] at h
      obtain ⟨us93, us93e⟩ : ∃ z, z = us62 ++ [u84] := ⟨_, rfl⟩
      rw [← us93e] at h
      refine wl_ok (r_assign (v := u91) rfl) (wl_nil (inBlock_normal (then_normal (wc_region (wl_ok (r_add rfl rfl e72r) (wl_ok (r_move (v := (.int .i64 ((i67 + 1)))) rfl) (wl_nil (then_loop ?_))))))))
      subst hnx70
      exact lend ⟨k66 + 1, i67 + 1, u91, us93, (x63 ++ [x78]), (y64 ++ [x68]), (lput x68 i67 y65)⟩ ⟨h.cn _, by omega, hs⟩ (by have := of_decide_eq_true e71; dsimp only; omega)
     ·
      rw [drop_ge (hik ▸ e71), eachI_nil] at hs
      refine wc_exit (then_exit (then_exit (inBlock_eq (then_normal (wc_seq (wc_region (wl_ok (r_makeFunc (c1 := []) (c2 := [(.pointer (some ⟨b45, 0, none⟩))]) rfl rfl) (wl_ok (r_assign (v := (.func (.func 50) #[] #[(.pointer (some ⟨b45, 0, none⟩))])) rfl) (wl_nil (then_normal (wc_seq (wc_seq (wc_region (wl_ok (r_fieldAddr Fld26x0 rfl) (wl_ok (r_ldB h 3 rfl One23 rfl rfl) (wl_ok (r_lenZ (N := nFrame) SliceOf23 rfl (h.ownS 13 rfl) (h.dnLen 14 rfl)) (wl_ok (r_move (v := (.int .i64 (0))) rfl) (wl_nil (then_normal (wc_block ?_))))))))))))))))))))
      have hli99 := zip_le (h.ownS 13 rfl) (h.dnLen 14 rfl)
      refine wc_lp (σ := Nat × Int × List LX.Frame) (inl [14, 65, 66, 67, 68, 69, 70, 71, 72, 73]) (fun ⟨k98, i99, x97⟩ => [(65, (.int .i64 (i99)))]) (fun ⟨k98, i99, x97⟩ w => SH w0 M BE w (hset [(3, .blk b1 [u37, u39, (.int .i64 (y35.status)), (.int .i64 (y35.wher))]), (4, .blk b2 [(.slice none 0 0), (.slice none 0 0), (.int .i64 (0)), (.int .i64 (0))]), (13, .own nFrame.raw 49 u37 (List.zip x97 us38)), (14, .pce (famS rVal 51 hn us38 (List.map nFrame.sub x97))), (15, .own (nLst Val).raw 47 u39 (List.zip y35.cells us40)), (16, .pce (famS rVal 51 (hmv y64) us40 (List.map (nLst Val).sub y35.cells))), (17, .mp b44 (List.map (fun p => (p.1, (fun x => Value.int .i64 x) p.2)) y65)), (18, .blk b45 [(.map (some b44))]), (25, .own (nLst Val).raw 47 v61 (List.zip x63 us62)), (26, .pce (famS rVal 51 hn us62 (List.map (nLst Val).sub x63)))]) ∧ i99 = (k98 : Int) ∧ upto (vm_Sweep_b11 y65) (vm_Sweep_k12 y65 y35 x63) i99 (((y35.frames.length : Int)).toNat - k98) x97 = some r) (fun ⟨k98, i99, x97⟩ => ((y35.frames.length : Int)).toNat - k98) ⟨0, 0, y35.frames⟩ ⟨rfl, trivial⟩ ?_ ?_
      ·
       exact ⟨h.cn _, rfl, hs⟩
      ·
       rintro ⟨k98, i99, x97⟩ w junk ⟨h, hik, hs⟩
       refine wc_seq (wc_region ?_)
       refine wl_ok (r_lss rfl rfl) (wl_nil (then_normal ?_))
       refine wc_seq (wc_if rfl (fun e103 => ?_) (fun e103 => ?_))
       ·
        refine wc_skip (then_normal ?_)
        rw [upto_lt (by have := of_decide_eq_true e103; omega)] at hs
        generalize hnx102 : upto (vm_Sweep_b11 y65) (vm_Sweep_k12 y65 y35 x63) (i99 + 1) (((y35.frames.length : Int)).toNat - (k98 + 1)) = nx102 at hs
        have e104r : I64 (i99 + 1) := (by have := of_decide_eq_true e103; have := hli99; exact I64.mk (by omega) (by omega))
        refine wc_seq (wc_block (wc_seq (wc_region ?_)))
        obtain ⟨x105, e106, hs⟩ := o_bind hs
        obtain ⟨u110, e111, h⟩ := h.dnOpenL 14 30 x105.regs rfl rfl (by decide) (o_idx e106).2 rfl
        obtain ⟨b108, q109, i107⟩ := h.ixO 13 rfl SliceOf23 rfl (o_idx e106).1 (zip_at (o_idx e106).2 e111)
        refine wl_ok (i107 _ _ _ _ _ _ _ _ _ rfl rfl) ?_
        obtain ⟨cs112, m113, r114⟩ := h.elO 13 rfl q109 (zip_at (o_idx e106).2 e111)
        obtain ⟨rfl, -⟩ := r114
        refine wl_ok (r_ldAN (k := 0) (vs := [(.int .i64 (x105.proc)), (.int .i64 (x105.at_)), u110, (.int .i64 (x105.to_))]) m113 Many49 rfl rfl rfl (Nat.le_of_ble_eq_true rfl)) (w_allocN h 31 Many49 fun w b115 h => w_stN (vs := [(.int .i64 (x105.proc)), (.int .i64 (x105.at_)), u110, (.int .i64 (x105.to_))]) h 31 [(.int .i64 (x105.proc)), (.int .i64 (x105.at_)), u110, (.int .i64 (x105.to_))] rfl Many49 rfl rfl rfl rfl rfl (ones_cons rfl (ones_cons rfl (ones_cons (h.ownAt 30 rfl).one (ones_cons rfl ones_nil)))) fun w h => wl_nil (then_normal (wc_region (wl_ok (r_move (v := (.func (.func 50) #[] #[(.pointer (some ⟨b45, 0, none⟩))])) rfl) (wl_ok (r_fieldAddr Fld49x2 rfl) (wl_ok (r_ldB h 31 rfl One47 rfl rfl) ?_))))))
        obtain ⟨l116a, l116b, l116c⟩ := h.lendS 30 (C := (.own rVal 51 u110 x105.regs : Chunk)) rfl trivial
        obtain ⟨y117, e118, hs⟩ := o_bind hs
        refine w_call fnOk50 rfl rfl (vmTurn_c _ _ l116c b45 b44 u110 x105.regs l116a l116b y65 (h.mpAt 17 rfl) (fun hb => h.apart 30 17 (by decide) _ hb rfl) (h.blkAt 18 rfl) (fun hb => h.apart 30 18 (by decide) _ hb rfl) _ e118) ?_
        rintro _ w ⟨k119, rfl, h120, h121⟩
        refine ⟨_, rfl, ?_⟩
        replace h := h.back 30 (C := (.own rVal 51 u110 x105.regs : Chunk)) (C' := (.own rVal 51 u110 y117 : Chunk)) rfl trivial h120 k119 h121
        refine wl_nil (inBlock_normal (then_normal (wc_region (wl_ok (r_add rfl rfl e104r) (wl_ok (r_move (v := (.int .i64 ((i99 + 1)))) rfl) (wl_nil ?_))))))
        replace h := h.dnClose 13 14 30 ({ x105 with regs := y117 }) rfl rfl rfl (by decide) (by decide) (by decide) (o_idx e106).2 e111 rfl
        refine then_loop ?_
        subst hnx102
        exact lend ⟨k98 + 1, i99 + 1, (x97.set (i99).toNat ({ x105 with regs := y117 }))⟩ ⟨h.cn _, by omega, hs⟩ (by have := of_decide_eq_true e103; dsimp only; omega)
       ·
        rw [upto_ge (by have := of_decide_eq_false e103; omega)] at hs
        refine wc_exit (then_exit (then_exit (inBlock_eq (then_normal (wc_seq (wc_seq (wc_region (wl_ok (r_move (v := v61) rfl) (wl_ok (r_lenZ (N := (nLst Val)) SliceOf24 rfl (h.ownS 25 rfl) (h.dnLen 26 rfl)) (wl_ok (r_move (v := (.int .i64 (0))) rfl) (wl_nil (then_normal (wc_block ?_)))))))))))))
        have hli127 := zip_le (h.ownS 25 rfl) (h.dnLen 26 rfl)
        refine wc_lp (σ := Nat × Int × List (List Val)) (inl [16, 76, 77, 78, 79, 80, 81, 82, 83]) (fun ⟨k126, i127, x125⟩ => [(76, (.int .i64 (i127)))]) (fun ⟨k126, i127, x125⟩ w => SH w0 M BE w (hset [(3, .blk b1 [u37, u39, (.int .i64 (y35.status)), (.int .i64 (y35.wher))]), (4, .blk b2 [(.slice none 0 0), (.slice none 0 0), (.int .i64 (0)), (.int .i64 (0))]), (13, .own nFrame.raw 49 u37 (List.zip x97 us38)), (14, .pce (famS rVal 51 hn us38 (List.map nFrame.sub x97))), (15, .own (nLst Val).raw 47 u39 (List.zip y35.cells us40)), (16, .pce (famS rVal 51 (hmv y64) us40 (List.map (nLst Val).sub y35.cells))), (17, .mp b44 (List.map (fun p => (p.1, (fun x => Value.int .i64 x) p.2)) y65)), (18, .blk b45 [(.map (some b44))]), (25, .own (nLst Val).raw 47 v61 (List.zip x125 us62)), (26, .pce (famS rVal 51 hn us62 (List.map (nLst Val).sub x125)))]) ∧ i127 = (k126 : Int) ∧ upto (vm_Sweep_b9 y65) (vm_Sweep_k10 x97 y35) i127 (((x63.length : Int)).toNat - k126) x125 = some r) (fun ⟨k126, i127, x125⟩ => ((x63.length : Int)).toNat - k126) ⟨0, 0, x63⟩ ⟨rfl, trivial⟩ ?_ ?_
        ·
         exact ⟨h.cn _, rfl, hs⟩
        ·
         rintro ⟨k126, i127, x125⟩ w junk ⟨h, hik, hs⟩
         refine wc_seq (wc_region ?_)
         refine wl_ok (r_lss rfl rfl) (wl_nil (then_normal ?_))
         refine wc_seq (wc_if rfl (fun e131 => ?_) (fun e131 => ?_))
         ·
          refine wc_skip (then_normal ?_)
          rw [upto_lt (by have := of_decide_eq_true e131; omega)] at hs
          generalize hnx130 : upto (vm_Sweep_b9 y65) (vm_Sweep_k10 x97 y35) (i127 + 1) (((x63.length : Int)).toNat - (k126 + 1)) = nx130 at hs
          have e132r : I64 (i127 + 1) := (by have := of_decide_eq_true e131; have := hli127; exact I64.mk (by omega) (by omega))
          refine wc_seq (wc_block (wc_seq (wc_region ?_)))
          obtain ⟨x133, e134, hs⟩ := o_bind hs
          obtain ⟨u138, e139, h⟩ := h.dnOpenL 26 32 x133 rfl rfl (by decide) (o_idx e134).2 rfl
          obtain ⟨b136, q137, i135⟩ := h.ixO 25 rfl SliceOf24 rfl (o_idx e134).1 (zip_at (o_idx e134).2 e139)
          refine wl_ok (i135 _ _ _ _ _ _ _ _ _ rfl rfl) ?_
          obtain ⟨cs140, m141, r142⟩ := h.elO 25 rfl q137 (zip_at (o_idx e134).2 e139)
          obtain ⟨rfl, -⟩ := r142
          refine wl_ok (r_ldA (k := 0) m141 One47 rfl rfl) (wl_ok (r_assign (v := u138) rfl) (wl_nil (then_normal (wc_region (wl_ok (r_move (v := (.func (.func 50) #[] #[(.pointer (some ⟨b45, 0, none⟩))])) rfl) (wl_ok (r_move (v := u138) rfl) ?_))))))
          obtain ⟨l143a, l143b, l143c⟩ := h.lendS 32 (C := (.own rVal 51 u138 x133 : Chunk)) rfl trivial
          obtain ⟨y144, e145, hs⟩ := o_bind hs
          refine w_call fnOk50 rfl rfl (vmTurn_c _ _ l143c b45 b44 u138 x133 l143a l143b y65 (h.mpAt 17 rfl) (fun hb => h.apart 32 17 (by decide) _ hb rfl) (h.blkAt 18 rfl) (fun hb => h.apart 32 18 (by decide) _ hb rfl) _ e145) ?_
          rintro _ w ⟨k146, rfl, h147, h148⟩
          refine ⟨_, rfl, ?_⟩
          replace h := h.back 32 (C := (.own rVal 51 u138 x133 : Chunk)) (C' := (.own rVal 51 u138 y144 : Chunk)) rfl trivial h147 k146 h148
          refine wl_nil (inBlock_normal (then_normal (wc_region (wl_ok (r_add rfl rfl e132r) (wl_ok (r_move (v := (.int .i64 ((i127 + 1)))) rfl) (wl_nil ?_))))))
          replace h := h.dnClose 25 26 32 y144 rfl rfl rfl (by decide) (by decide) (by decide) (o_idx e134).2 e139 rfl
          refine then_loop ?_
          subst hnx130
          exact lend ⟨k126 + 1, i127 + 1, (x125.set (i127).toNat y144)⟩ ⟨h.cn _, by omega, hs⟩ (by have := of_decide_eq_true e131; dsimp only; omega)
         ·
          rw [upto_ge (by have := of_decide_eq_false e131; omega)] at hs
          refine wc_exit (then_exit (then_exit (inBlock_eq (then_normal (wc_seq (wc_region (wl_ok (r_move (v := v61) rfl) (wl_ok (r_fieldAddr Fld26x1 rfl) (w_st1 h 3 [u37, v61, (.int .i64 (y35.status)), (.int .i64 (y35.wher))] rfl One24 rfl rfl rfl rfl (h.ownAt 25 rfl).one fun w h => wl_nil (then_normal (wc_seq (wc_region (wl_ok (r_ldBN (vs := [u37, v61, (.int .i64 (y35.status)), (.int .i64 (y35.wher))]) h 3 rfl Many26 rfl rfl rfl) (w_stN (vs := [u37, v61, (.int .i64 (y35.status)), (.int .i64 (y35.wher))]) h 4 [u37, v61, (.int .i64 (y35.status)), (.int .i64 (y35.wher))] rfl Many26 rfl rfl rfl rfl rfl (ones_cons (h.ownAt 13 rfl).one (ones_cons (h.ownAt 25 rfl).one (ones_cons rfl (ones_cons rfl ones_nil)))) fun w h => wl_nil (then_normal (wc_ret (fin_c (vs := [u37, v61, (.int .i64 (y35.status)), (.int .i64 (y35.wher))]) Tryz.results20 rfl h 4 rfl Many26 rfl ?_)))))))))))))))))
          replace h := h.pair 13 14 (by decide)
          replace h := h.pair 13 25 (by decide)
          replace h := h.pair 13 26 (by decide)
          obtain rfl := Option.some.inj hs
          obtain ⟨o1, o2, o3⟩ := h.outS 13 (C := (.two (.two (.two (.own nFrame.raw 49 u37 (List.zip x97 us38)) (.pce (famS rVal 51 hn us38 (List.map nFrame.sub x97)))) (.own (nLst Val).raw 47 v61 (List.zip x125 us62))) (.pce (famS rVal 51 hn us62 (List.map (nLst Val).sub x125))) : Chunk)) rfl ⟨⟨⟨trivial, trivial⟩, trivial⟩, trivial⟩
          exact ⟨o2, u37, v61, us38, us62, rfl, o1, new_own o3⟩
def vm_fresh_j1 (a : Ins) (y4 : List LX.Frame) (y7 : List (List Val)) (y8 : Int) (y9 : Int) : Option (Bool × LX.State) :=
  bif decide (((y7.length : Int) : Int) = 24) then some (false, (⟨y4, y7, y8, y9⟩ : LX.State)) else grd (I64 ((y4.length : Int) - 1)) ((idx y4 ((y4.length : Int) - 1)).bind fun x12 => (idx x12.regs a.a).bind fun x22 => grd (0 ≤ a.b ∧ a.b * 16 ≤ 140737488355328) (grd (Room 24 y7 [(List.replicate a.b.toNat (⟨0, 0⟩ : Val))]) (some (true, (⟨(y4.set (((y4.length : Int) - 1)).toNat ({ x12 with regs := (x12.regs.set (a.a).toNat (⟨2, (y7.length : Int)⟩ : Val)) })), (y7 ++ [(List.replicate a.b.toNat (⟨0, 0⟩ : Val))]), y8, y9⟩ : LX.State)))))
def vm_fresh (N : Nat) (sx : LX.State) (a : Ins) : Option (Bool × LX.State) :=
  bif decide (((sx.cells.length : Int) : Int) = 24) then (vm_Sweep N sx).bind fun y39 => vm_fresh_j1 a y39.frames y39.cells y39.status y39.wher else vm_fresh_j1 a sx.frames sx.cells sx.status sx.wher
theorem vm_fresh_c (N : Nat) (w0 : World) (M : BS) (hM : ∀ b, M b → b < w0.heap.size) (sb : Nat) (sx : LX.State) (vs0 vs1 : Value) (ws0 ws1 : List Value) (hC : Chunk.holds w0 M (Chunk.own' (.two (.two (.two (.two (.blk sb [vs0, vs1, (.int .i64 (sx.status)), (.int .i64 (sx.wher))]) (.own nFrame.raw 49 vs0 (List.zip sx.frames ws0))) (.pce (famS rVal 51 hn ws0 (List.map nFrame.sub sx.frames)))) (.own (nLst Val).raw 47 vs1 (List.zip sx.cells ws1))) (.pce (famS rVal 51 hn ws1 (List.map (nLst Val).sub sx.cells))) : Chunk)) (.two (.two (.two (.two (.blk sb [vs0, vs1, (.int .i64 (sx.status)), (.int .i64 (sx.wher))]) (.own nFrame.raw 49 vs0 (List.zip sx.frames ws0))) (.pce (famS rVal 51 hn ws0 (List.map nFrame.sub sx.frames)))) (.own (nLst Val).raw 47 vs1 (List.zip sx.cells ws1))) (.pce (famS rVal 51 hn ws1 (List.map (nLst Val).sub sx.cells))) : Chunk)) (hap : ∀ b, Chunk.own' (.two (.two (.two (.two (.blk sb [vs0, vs1, (.int .i64 (sx.status)), (.int .i64 (sx.wher))]) (.own nFrame.raw 49 vs0 (List.zip sx.frames ws0))) (.pce (famS rVal 51 hn ws0 (List.map nFrame.sub sx.frames)))) (.own (nLst Val).raw 47 vs1 (List.zip sx.cells ws1))) (.pce (famS rVal 51 hn ws1 (List.map (nLst Val).sub sx.cells))) : Chunk) b → ¬ M b) (a : Ins) (va4 : Value) (ha4 : RdSl rInt w0 (fun b => M b ∨ (.two (.two (.two (.two (.blk sb [vs0, vs1, (.int .i64 (sx.status)), (.int .i64 (sx.wher))]) (.own nFrame.raw 49 vs0 (List.zip sx.frames ws0))) (.pce (famS rVal 51 hn ws0 (List.map nFrame.sub sx.frames)))) (.own (nLst Val).raw 47 vs1 (List.zip sx.cells ws1))) (.pce (famS rVal 51 hn ws1 (List.map (nLst Val).sub sx.cells))) : Chunk).own' b) va4 a.args) (r : Bool × LX.State) (hs : vm_fresh N sx a = some r) :
    Calls Tryz.prog 89 #[(.pointer (some ⟨sb, 0, none⟩)), (.agg #[(.int .i64 (a.op)), (.int .i64 (a.a)), (.int .i64 (a.b)), (.int .i64 (a.c)), va4])] w0 (fun e w' => Keep (Chunk.own' (.two (.two (.two (.two (.blk sb [vs0, vs1, (.int .i64 (sx.status)), (.int .i64 (sx.wher))]) (.own nFrame.raw 49 vs0 (List.zip sx.frames ws0))) (.pce (famS rVal 51 hn ws0 (List.map nFrame.sub sx.frames)))) (.own (nLst Val).raw 47 vs1 (List.zip sx.cells ws1))) (.pce (famS rVal 51 hn ws1 (List.map (nLst Val).sub sx.cells))) : Chunk)) w0 w' ∧ ∃ us0, ∃ us1, ∃ wt0, ∃ wt1, e = .returned (.bool r.1) ∧ Chunk.holds w' M (Chunk.own' (.two (.two (.two (.two (.blk sb [us0, us1, .int .i64 r.2.status, .int .i64 r.2.wher]) (.own nFrame.raw 49 us0 (List.zip r.2.frames wt0))) (.pce (famS rVal 51 hn wt0 (List.map nFrame.sub r.2.frames)))) (.own (nLst Val).raw 47 us1 (List.zip r.2.cells wt1))) (.pce (famS rVal 51 hn wt1 (List.map (nLst Val).sub r.2.cells))) : Chunk)) (.two (.two (.two (.two (.blk sb [us0, us1, .int .i64 r.2.status, .int .i64 r.2.wher]) (.own nFrame.raw 49 us0 (List.zip r.2.frames wt0))) (.pce (famS rVal 51 hn wt0 (List.map nFrame.sub r.2.frames)))) (.own (nLst Val).raw 47 us1 (List.zip r.2.cells wt1))) (.pce (famS rVal 51 hn wt1 (List.map (nLst Val).sub r.2.cells))) : Chunk) ∧ (∀ b, Chunk.own' (.two (.two (.two (.two (.blk sb [us0, us1, .int .i64 r.2.status, .int .i64 r.2.wher]) (.own nFrame.raw 49 us0 (List.zip r.2.frames wt0))) (.pce (famS rVal 51 hn wt0 (List.map nFrame.sub r.2.frames)))) (.own (nLst Val).raw 47 us1 (List.zip r.2.cells wt1))) (.pce (famS rVal 51 hn wt1 (List.map (nLst Val).sub r.2.cells))) : Chunk) b → b < w0.heap.size → Chunk.own' (.two (.two (.two (.two (.blk sb [vs0, vs1, (.int .i64 (sx.status)), (.int .i64 (sx.wher))]) (.own nFrame.raw 49 vs0 (List.zip sx.frames ws0))) (.pce (famS rVal 51 hn ws0 (List.map nFrame.sub sx.frames)))) (.own (nLst Val).raw 47 vs1 (List.zip sx.cells ws1))) (.pce (famS rVal 51 hn ws1 (List.map (nLst Val).sub sx.cells))) : Chunk) b)) := by
 refine calls_start (args := [(.pointer (some ⟨sb, 0, none⟩)), (.agg #[(.int .i64 (a.op)), (.int .i64 (a.a)), (.int .i64 (a.b)), (.int .i64 (a.c)), va4])]) Tryz.func89 rfl Tryz.ntmps89 (Nat.le_of_ble_eq_true rfl) ?_
 have h := SH.init1 hM hC hap
 replace h := h.argRdC 6 ha4 own1
 generalize hK0 : (.two (.two (.two (.two (.blk sb [vs0, vs1, (.int .i64 (sx.status)), (.int .i64 (sx.wher))]) (.own nFrame.raw 49 vs0 (List.zip sx.frames ws0))) (.pce (famS rVal 51 hn ws0 (List.map nFrame.sub sx.frames)))) (.own (nLst Val).raw 47 vs1 (List.zip sx.cells ws1))) (.pce (famS rVal 51 hn ws1 (List.map (nLst Val).sub sx.cells))) : Chunk).own' = K0 at h
 replace h := h.unpair 1 5 (by decide) rfl rfl
 replace h := h.unpair 1 4 (by decide) rfl rfl
 replace h := h.unpair 1 3 (by decide) rfl rfl
 replace h := h.unpair 1 2 (by decide) rfl rfl
 refine wc_seq (wc_region (w_box (cs := [(.int .i64 (a.op)), (.int .i64 (a.a)), (.int .i64 (a.b)), (.int .i64 (a.c)), va4]) h 7 rfl rfl fun w b1 h => wl_ok (r_assign (v := (.bool (false))) rfl) (wl_nil (then_normal (wc_join (σ := Value × List Value × List LX.Frame × Value × List Value × List (List Val) × Int × Int) (inl [5, 6, 7, 8, 9, 10, 11, 12, 13, 14, 15, 16]) (fun ⟨v2, us3, y4, v5, us6, y7, y8, y9⟩ => []) (fun ⟨v2, us3, y4, v5, us6, y7, y8, y9⟩ w => SH w0 M K0 w (hset [(1, .blk sb [v2, v5, (.int .i64 (y8)), (.int .i64 (y9))]), (6, .rd rInt va4 a.args), (7, .blk b1 [(.int .i64 (a.op)), (.int .i64 (a.a)), (.int .i64 (a.b)), (.int .i64 (a.c)), va4]), (8, .own nFrame.raw 49 v2 (List.zip y4 us3)), (9, .pce (famS rVal 51 hn us3 (List.map nFrame.sub y4))), (10, .own (nLst Val).raw 47 v5 (List.zip y7 us6)), (11, .pce (famS rVal 51 hn us6 (List.map (nLst Val).sub y7)))]) ∧ vm_fresh_j1 a y4 y7 y8 y9 = some r) ?_ ?_)))))
 ·
  rintro ⟨v2, us3, y4, v5, us6, y7, y8, y9⟩ w junk ⟨h, hs⟩
  refine wc_seq (wc_seq (wc_region (wl_ok (r_move (v := (.pointer (some ⟨sb, 0, none⟩))) rfl) (wl_ok (r_nilCheck rfl) (wl_ok (r_fieldAddr Fld26x1 rfl) (wl_ok (r_ldB h 1 rfl One24 rfl rfl) (wl_ok (r_lenZ (N := (nLst Val)) SliceOf24 rfl (h.ownS 10 rfl) (h.dnLen 11 rfl)) (wl_ok (r_eql rfl rfl) (wl_nil (then_normal (wc_ifb hs rfl (fun c10 hs => ?_) (fun c10 hs => ?_))))))))))))
  ·
   refine wc_seq (wc_region (wl_ok (r_assign (v := (.bool (false))) rfl) (wl_nil (then_normal (wc_ret (then_ret (fin1 (v := (.bool (false))) Tryz.results89 rfl ?_)))))))
   replace h := h.pair 1 8 (by decide)
   replace h := h.pair 1 9 (by decide)
   replace h := h.pair 1 10 (by decide)
   replace h := h.pair 1 11 (by decide)
   obtain rfl := Option.some.inj hs
   subst hK0
   obtain ⟨o1, o2, o3⟩ := h.outS 1 (C := (.two (.two (.two (.two (.blk sb [v2, v5, (.int .i64 (y8)), (.int .i64 (y9))]) (.own nFrame.raw 49 v2 (List.zip y4 us3))) (.pce (famS rVal 51 hn us3 (List.map nFrame.sub y4)))) (.own (nLst Val).raw 47 v5 (List.zip y7 us6))) (.pce (famS rVal 51 hn us6 (List.map (nLst Val).sub y7))) : Chunk)) rfl ⟨⟨⟨⟨trivial, trivial⟩, trivial⟩, trivial⟩, trivial⟩
   exact ⟨o2, v2, v5, us3, us6, rfl, o1, o3⟩
  ·
   refine wc_skip (then_normal (wc_seq (wc_tail 22 mixed (by kernel_rfl) h fun w h => wk_ok (r_move (v := (.pointer (some ⟨sb, 0, none⟩))) rfl) (wk_ok (r_nilCheck rfl) (wk_ok (r_fieldAddr Fld26x0 rfl) (wk_ok (r_ldB h 1 rfl One23 rfl rfl) (wk_ok (r_move (v := (.pointer (some ⟨sb, 0, none⟩))) rfl) (wk_ok (r_nilCheck rfl) (wk_ok (r_fieldAddr Fld26x0 rfl) (wk_ok (r_ldB h 1 rfl One23 rfl rfl) (wk_ok (r_lenZ (N := nFrame) SliceOf23 rfl (h.ownS 8 rfl) (h.dnLen 9 rfl)) ?_)))))))))))
   obtain ⟨a11, hs⟩ := o_grd hs
   refine wk_ok (r_sub rfl rfl a11) ?_
   obtain ⟨x12, e13, hs⟩ := o_bind hs
   obtain ⟨u17, e18, h⟩ := h.dnOpenL 9 12 x12.regs rfl rfl (by decide) (o_idx e13).2 rfl
   obtain ⟨b15, q16, i14⟩ := h.ixO 8 rfl SliceOf23 rfl (o_idx e13).1 (zip_at (o_idx e13).2 e18)
   refine wk_ok (i14 _ _ _ _ _ _ _ _ _ rfl rfl) (wk_ok (r_fieldAddr Fld49x2 rfl) ?_)
   obtain ⟨cs19, m20, r21⟩ := h.elO 8 rfl q16 (zip_at (o_idx e13).2 e18)
   obtain ⟨rfl, -⟩ := r21
   refine wk_ok (r_ldA (k := 2) m20 One47 rfl rfl) (wk_ok (r_fieldAddr Fld93x1 rfl) (wk_ok (r_ldB h 7 rfl One3 rfl rfl) (wk_ok (r_move (v := (.pointer (some ⟨sb, 0, none⟩))) rfl) (wk_ok (r_nilCheck rfl) (wk_ok (r_fieldAddr Fld26x1 rfl) (wk_ok (r_ldB h 1 rfl One24 rfl rfl) (wk_ok (r_lenZ (N := (nLst Val)) SliceOf24 rfl (h.ownS 10 rfl) (h.dnLen 11 rfl)) (wk_ok (r_build (pv := [(0, (.int .i64 (2))), (1, (.int .i64 ((y7.length : Int))))]) (out := [(.int .i64 (2)), (.int .i64 ((y7.length : Int)))]) Struct51 rfl ⟨0, 1, [(.int .i64 (2))], rfl, rfl, rfl, Nat.le_of_ble_eq_true rfl, ⟨1, 1, [(.int .i64 ((y7.length : Int)))], rfl, rfl, rfl, Nat.le_of_ble_eq_true rfl, rfl⟩⟩) ?_))))))))
   obtain ⟨x22, e23, hs⟩ := o_bind hs
   obtain ⟨b25, q26, i24⟩ := h.ixO 12 rfl SliceOf47 rfl (o_idx e23).1 (o_idx e23).2
   refine wk_ok (i24 _ _ _ _ _ _ _ _ _ rfl rfl) (wk_go (w_stON (a' := (⟨2, (y7.length : Int)⟩ : Val)) (vs := [(.int .i64 (2)), (.int .i64 ((y7.length : Int)))]) h 12 rfl q26 rfl (o_idx e23).2 Many51 rfl rfl rfl rfl rfl fun w h k27 => wl_nil (then_normal (wc_seq (wck_held (L := (fun b => ob v5 b ∨ b = sb)) mixed h fun w h => whk_ok 0 (Keep.refl _ _) rfl want_none (by kernel_rfl) (by kernel_rfl) (by kernel_rfl) (fun w hk => r_move (v := (.pointer (some ⟨sb, 0, none⟩))) rfl) (whk_ok 1 (Keep.refl _ _) rfl want_none (by kernel_rfl) (by kernel_rfl) (by kernel_rfl) (fun w hk => r_move (v := (.pointer (some ⟨sb, 0, none⟩))) rfl) (whk_ok 2 (Keep.refl _ _) rfl want_none (by kernel_rfl) (by kernel_rfl) (by kernel_rfl) (fun w hk => r_nilCheck rfl) (whk_ok 3 (Keep.refl _ _) rfl want_none (by kernel_rfl) (by kernel_rfl) (by kernel_rfl) (fun w hk => r_fieldAddr Fld26x1 rfl) (whk_ok 5 (Keep.refl _ _) rfl want_none (by kernel_rfl) (by kernel_rfl) (by kernel_rfl) (fun w hk => r_fieldAddr Fld93x2 rfl) (whk_ok 6 (Keep.refl _ _) rfl want_none (by kernel_rfl) (by kernel_rfl) (by kernel_rfl) (fun w hk => have h := h.loseC2 10 1 (by decide) rfl rfl hk; r_ldB h 7 rfl One3 rfl rfl) ?_))))))))))
   obtain ⟨aq35x7_2, hs⟩ := o_grd hs
   obtain ⟨aq35x9_1, hs⟩ := o_grd hs
   obtain ⟨ws36, ws36e⟩ : ∃ x, x = w := ⟨_, rfl⟩
   have hg37 : Keep (fun b => ob v5 b ∨ b = sb) ws36 w := ws36e ▸ Keep.refl (fun b => ob v5 b ∨ b = sb) w
   refine whk_at ws36e.symm (whk_eff2 4 7 (by kernel_rfl) rfl want_none rfl want_none ?_ ?_)
   ·
    refine wl_ok (r_ldB h 1 rfl One24 rfl rfl) (wl_nil (whk_back hg37 (whk_eff 7 (by kernel_rfl) rfl want_none (w_makeSlN (R := rVal) (zs := [(.int .i64 (0)), (.int .i64 (0))]) (a := (⟨0, 0⟩ : Val)) h 97 ElemOf47 Many51 rfl (by decide) rfl rfl aq35x7_2 rfl (fun _ _ => rfl) fun w uq35x7_1 h uq35x7_1k uq35x7_1f => ?_))))
    have uq35x7_1q : ∀ b, ob uq35x7_1 b → ws36.heap.size ≤ b := fun b hb => Nat.le_trans hg37.size (uq35x7_1f b hb)
    replace hg37 := hg37.grow uq35x7_1k
    refine wl_nil (whk_back hg37 (whk_eff 8 (by kernel_rfl) rfl want_none ?_))
    have uq35x8_1o : (Value.oneCell' uq35x7_1) = true := (h.ownAt 97 rfl).one
    refine w_bsG (R := (nLst Val).raw) (vs := [uq35x7_1]) (xs := List.zip [(List.replicate a.b.toNat (⟨0, 0⟩ : Val))] [uq35x7_1]) h 109 ElemOf24 rfl rfl rfl ⟨⟨toList_of_one uq35x8_1o, uq35x8_1o⟩, trivial⟩ rfl fun w uq35x8_1 h uq35x8_1k uq35x8_1f => ?_
    have uq35x8_1q : ∀ b, ob uq35x8_1 b → ws36.heap.size ≤ b := fun b hb => Nat.le_trans hg37.size (uq35x8_1f b hb)
    replace hg37 := hg37.grow uq35x8_1k
    replace h := h.famNewL (N := (nLst Val)) 97 (List.replicate a.b.toNat (⟨0, 0⟩ : Val)) rfl rfl
    refine wl_nil (whk_back hg37 (whk_eff 9 (by kernel_rfl) rfl want_none ?_))
    have zq35x9_3 := h.dnLen 11 rfl
    have zq35x9_3b := h.dnLen 97 rfl
    have uq35x9_2z := hg37.size
    refine w_appGN (R := (nLst Val).raw) (m := List.zip [(List.replicate a.b.toNat (⟨0, 0⟩ : Val))] [uq35x7_1]) h 10 rfl (h.ownS 109 rfl) ElemOf24 rfl rfl rfl (by rw [zip_len zq35x9_3, zip_len zq35x9_3b]; exact aq35x9_1.1) (by rw [zip_len zq35x9_3, zip_len zq35x9_3b]; exact aq35x9_1.2) fun w uq35x9_2 h uq35x9_2k uq35x9_2n => ?_
    have uq35x9_2q : ∀ b, ob uq35x9_2 b → b < ws36.heap.size → ob v5 b := fun b hb hl => uq35x9_2n b hb (Nat.lt_of_lt_of_le hl (hg37).size)
    replace hg37 := Keep.step hg37 uq35x9_2k (fun _ hx _ => .inl (hx))
    replace h := (h.famJoin 11 97 rfl rfl (by decide)).dropC 109
    rw [zip_app zq35x9_3, ← List.map_append] at h
    obtain ⟨usq35x9_4, usq35x9_4e⟩ : ∃ z, z = us6 ++ [uq35x7_1] := ⟨_, rfl⟩
    rw [← usq35x9_4e] at h
    refine wl_nil (whk_back hg37 (whk_ok 10 hg37 rfl want_none (by kernel_rfl) (by kernel_rfl) (by kernel_rfl) (fun w hk => r_nilCheck rfl) (whk_ok 11 hg37 rfl want_none (by kernel_rfl) (by kernel_rfl) (by kernel_rfl) (fun w hk => r_fieldAddr Fld26x1 rfl) (whk_eff 12 (by kernel_rfl) rfl want_none (w_st1G h 1 [v2, uq35x9_2, (.int .i64 (y8)), (.int .i64 (y9))] rfl One24 rfl rfl rfl rfl (h.ownAt 10 rfl).one fun w h kq35x12_1 => ?_)))))
    replace hg37 := Keep.step hg37 kq35x12_1 (fun _ hx _ => .inr (hx))
    refine wl_nil (whk_back hg37 (whk_done (by kernel_rfl) (then_normal (wc_seq (wc_region (wl_ok (r_assign (v := (.bool (true))) rfl) (wl_nil (then_normal (wc_ret (fin1 (v := (.bool (true))) Tryz.results89 rfl ?_))))))))))
    replace h := h.dnClose 8 9 12 ({ x12 with regs := (x12.regs.set (a.a).toNat (⟨2, (y7.length : Int)⟩ : Val)) }) rfl rfl rfl (by decide) (by decide) (by decide) (o_idx e13).2 e18 rfl
    replace h := h.pair 1 8 (by decide)
    replace h := h.pair 1 9 (by decide)
    replace h := h.pair 1 10 (by decide)
    replace h := h.pair 1 11 (by decide)
    obtain rfl := Option.some.inj hs
    subst hK0
    obtain ⟨o1, o2, o3⟩ := h.outS 1 (C := (.two (.two (.two (.two (.blk sb [v2, uq35x9_2, (.int .i64 (y8)), (.int .i64 (y9))]) (.own nFrame.raw 49 v2 (List.zip (y4.set (((y4.length : Int) - 1)).toNat ({ x12 with regs := (x12.regs.set (a.a).toNat (⟨2, (y7.length : Int)⟩ : Val)) })) us3))) (.pce (famS rVal 51 hn us3 (List.map nFrame.sub (y4.set (((y4.length : Int) - 1)).toNat ({ x12 with regs := (x12.regs.set (a.a).toNat (⟨2, (y7.length : Int)⟩ : Val)) })))))) (.own (nLst Val).raw 47 uq35x9_2 (List.zip (y7 ++ [(List.replicate a.b.toNat (⟨0, 0⟩ : Val))]) usq35x9_4))) (.pce (famS rVal 51 hn usq35x9_4 (List.map (nLst Val).sub (y7 ++ [(List.replicate a.b.toNat (⟨0, 0⟩ : Val))])))) : Chunk)) rfl ⟨⟨⟨⟨trivial, trivial⟩, trivial⟩, trivial⟩, trivial⟩
    exact ⟨o2, v2, uq35x9_2, us3, usq35x9_4, rfl, o1, o3⟩
   ·
    refine w_makeSlN (R := rVal) (zs := [(.int .i64 (0)), (.int .i64 (0))]) (a := (⟨0, 0⟩ : Val)) h 97 ElemOf47 Many51 rfl (by decide) rfl rfl aq35x7_2 rfl (fun _ _ => rfl) fun w uq35x7_1 h uq35x7_1k uq35x7_1f => ?_
    have uq35x7_1q : ∀ b, ob uq35x7_1 b → ws36.heap.size ≤ b := fun b hb => Nat.le_trans hg37.size (uq35x7_1f b hb)
    replace hg37 := hg37.grow uq35x7_1k
    refine wl_nil (whk_back hg37 (whk_eff2 4 8 (by kernel_rfl) rfl want_none rfl want_none ?_ ?_))
    ·
     refine wl_ok (r_ldB h 1 rfl One24 rfl rfl) (wl_nil (whk_back hg37 (whk_eff 8 (by kernel_rfl) rfl want_none ?_)))
     have uq35x8_1o : (Value.oneCell' uq35x7_1) = true := (h.ownAt 97 rfl).one
     refine w_bsG (R := (nLst Val).raw) (vs := [uq35x7_1]) (xs := List.zip [(List.replicate a.b.toNat (⟨0, 0⟩ : Val))] [uq35x7_1]) h 109 ElemOf24 rfl rfl rfl ⟨⟨toList_of_one uq35x8_1o, uq35x8_1o⟩, trivial⟩ rfl fun w uq35x8_1 h uq35x8_1k uq35x8_1f => ?_
     have uq35x8_1q : ∀ b, ob uq35x8_1 b → ws36.heap.size ≤ b := fun b hb => Nat.le_trans hg37.size (uq35x8_1f b hb)
     replace hg37 := hg37.grow uq35x8_1k
     replace h := h.famNewL (N := (nLst Val)) 97 (List.replicate a.b.toNat (⟨0, 0⟩ : Val)) rfl rfl
     refine wl_nil (whk_back hg37 (whk_eff 9 (by kernel_rfl) rfl want_none ?_))
     have zq35x9_3 := h.dnLen 11 rfl
     have zq35x9_3b := h.dnLen 97 rfl
     have uq35x9_2z := hg37.size
     refine w_appGN (R := (nLst Val).raw) (m := List.zip [(List.replicate a.b.toNat (⟨0, 0⟩ : Val))] [uq35x7_1]) h 10 rfl (h.ownS 109 rfl) ElemOf24 rfl rfl rfl (by rw [zip_len zq35x9_3, zip_len zq35x9_3b]; exact aq35x9_1.1) (by rw [zip_len zq35x9_3, zip_len zq35x9_3b]; exact aq35x9_1.2) fun w uq35x9_2 h uq35x9_2k uq35x9_2n => ?_
     have uq35x9_2q : ∀ b, ob uq35x9_2 b → b < ws36.heap.size → ob v5 b := fun b hb hl => uq35x9_2n b hb (Nat.lt_of_lt_of_le hl (hg37).size)
     replace hg37 := Keep.step hg37 uq35x9_2k (fun _ hx _ => .inl (hx))
     replace h := (h.famJoin 11 97 rfl rfl (by decide)).dropC 109
     rw [zip_app zq35x9_3, ← List.map_append] at h
     obtain ⟨usq35x9_4, usq35x9_4e⟩ : ∃ z, z = us6 ++ [uq35x7_1] := ⟨_, rfl⟩
     rw [← usq35x9_4e] at h
     refine wl_nil (whk_back hg37 (whk_ok 10 hg37 rfl want_none (by kernel_rfl) (by kernel_rfl) (by kernel_rfl) (fun w hk => r_nilCheck rfl) (whk_ok 11 hg37 rfl want_none (by kernel_rfl) (by kernel_rfl) (by kernel_rfl) (fun w hk => r_fieldAddr Fld26x1 rfl) (whk_eff 12 (by kernel_rfl) rfl want_none (w_st1G h 1 [v2, uq35x9_2, (.int .i64 (y8)), (.int .i64 (y9))] rfl One24 rfl rfl rfl rfl (h.ownAt 10 rfl).one fun w h kq35x12_1 => ?_)))))
     replace hg37 := Keep.step hg37 kq35x12_1 (fun _ hx _ => .inr (hx))
     refine wl_nil (whk_back hg37 (whk_done (by kernel_rfl) (then_normal (wc_seq (wc_region (wl_ok (r_assign (v := (.bool (true))) rfl) (wl_nil (then_normal (wc_ret (fin1 (v := (.bool (true))) Tryz.results89 rfl ?_))))))))))
     replace h := h.dnClose 8 9 12 ({ x12 with regs := (x12.regs.set (a.a).toNat (⟨2, (y7.length : Int)⟩ : Val)) }) rfl rfl rfl (by decide) (by decide) (by decide) (o_idx e13).2 e18 rfl
     replace h := h.pair 1 8 (by decide)
     replace h := h.pair 1 9 (by decide)
     replace h := h.pair 1 10 (by decide)
     replace h := h.pair 1 11 (by decide)
     obtain rfl := Option.some.inj hs
     subst hK0
     obtain ⟨o1, o2, o3⟩ := h.outS 1 (C := (.two (.two (.two (.two (.blk sb [v2, uq35x9_2, (.int .i64 (y8)), (.int .i64 (y9))]) (.own nFrame.raw 49 v2 (List.zip (y4.set (((y4.length : Int) - 1)).toNat ({ x12 with regs := (x12.regs.set (a.a).toNat (⟨2, (y7.length : Int)⟩ : Val)) })) us3))) (.pce (famS rVal 51 hn us3 (List.map nFrame.sub (y4.set (((y4.length : Int) - 1)).toNat ({ x12 with regs := (x12.regs.set (a.a).toNat (⟨2, (y7.length : Int)⟩ : Val)) })))))) (.own (nLst Val).raw 47 uq35x9_2 (List.zip (y7 ++ [(List.replicate a.b.toNat (⟨0, 0⟩ : Val))]) usq35x9_4))) (.pce (famS rVal 51 hn usq35x9_4 (List.map (nLst Val).sub (y7 ++ [(List.replicate a.b.toNat (⟨0, 0⟩ : Val))])))) : Chunk)) rfl ⟨⟨⟨⟨trivial, trivial⟩, trivial⟩, trivial⟩, trivial⟩
     exact ⟨o2, v2, uq35x9_2, us3, usq35x9_4, rfl, o1, o3⟩
    ·
     have uq35x8_1o : (Value.oneCell' uq35x7_1) = true := (h.ownAt 97 rfl).one
     refine w_bsG (R := (nLst Val).raw) (vs := [uq35x7_1]) (xs := List.zip [(List.replicate a.b.toNat (⟨0, 0⟩ : Val))] [uq35x7_1]) h 109 ElemOf24 rfl rfl rfl ⟨⟨toList_of_one uq35x8_1o, uq35x8_1o⟩, trivial⟩ rfl fun w uq35x8_1 h uq35x8_1k uq35x8_1f => ?_
     have uq35x8_1q : ∀ b, ob uq35x8_1 b → ws36.heap.size ≤ b := fun b hb => Nat.le_trans hg37.size (uq35x8_1f b hb)
     replace hg37 := hg37.grow uq35x8_1k
     replace h := h.famNewL (N := (nLst Val)) 97 (List.replicate a.b.toNat (⟨0, 0⟩ : Val)) rfl rfl
     refine wl_nil (whk_back hg37 (whk_eff 4 (by kernel_rfl) rfl want_none (wl_ok (r_ldB h 1 rfl One24 rfl rfl) (wl_nil (whk_back hg37 (whk_eff 9 (by kernel_rfl) rfl want_none ?_))))))
     have zq35x9_3 := h.dnLen 11 rfl
     have zq35x9_3b := h.dnLen 97 rfl
     have uq35x9_2z := hg37.size
     refine w_appGN (R := (nLst Val).raw) (m := List.zip [(List.replicate a.b.toNat (⟨0, 0⟩ : Val))] [uq35x7_1]) h 10 rfl (h.ownS 109 rfl) ElemOf24 rfl rfl rfl (by rw [zip_len zq35x9_3, zip_len zq35x9_3b]; exact aq35x9_1.1) (by rw [zip_len zq35x9_3, zip_len zq35x9_3b]; exact aq35x9_1.2) fun w uq35x9_2 h uq35x9_2k uq35x9_2n => ?_
     have uq35x9_2q : ∀ b, ob uq35x9_2 b → b < ws36.heap.size → ob v5 b := fun b hb hl => uq35x9_2n b hb (Nat.lt_of_lt_of_le hl (hg37).size)
     replace hg37 := Keep.step hg37 uq35x9_2k (fun _ hx _ => .inl (hx))
     replace h := (h.famJoin 11 97 rfl rfl (by decide)).dropC 109
     rw [zip_app zq35x9_3, ← List.map_append] at h
     obtain ⟨usq35x9_4, usq35x9_4e⟩ : ∃ z, z = us6 ++ [uq35x7_1] := ⟨_, rfl⟩
     rw [← usq35x9_4e] at h
     refine wl_nil (whk_back hg37 (whk_ok 10 hg37 rfl want_none (by kernel_rfl) (by kernel_rfl) (by kernel_rfl) (fun w hk => r_nilCheck rfl) (whk_ok 11 hg37 rfl want_none (by kernel_rfl) (by kernel_rfl) (by kernel_rfl) (fun w hk => r_fieldAddr Fld26x1 rfl) (whk_eff 12 (by kernel_rfl) rfl want_none (w_st1G h 1 [v2, uq35x9_2, (.int .i64 (y8)), (.int .i64 (y9))] rfl One24 rfl rfl rfl rfl (h.ownAt 10 rfl).one fun w h kq35x12_1 => ?_)))))
     replace hg37 := Keep.step hg37 kq35x12_1 (fun _ hx _ => .inr (hx))
     refine wl_nil (whk_back hg37 (whk_done (by kernel_rfl) (then_normal (wc_seq (wc_region (wl_ok (r_assign (v := (.bool (true))) rfl) (wl_nil (then_normal (wc_ret (fin1 (v := (.bool (true))) Tryz.results89 rfl ?_))))))))))
     replace h := h.dnClose 8 9 12 ({ x12 with regs := (x12.regs.set (a.a).toNat (⟨2, (y7.length : Int)⟩ : Val)) }) rfl rfl rfl (by decide) (by decide) (by decide) (o_idx e13).2 e18 rfl
     replace h := h.pair 1 8 (by decide)
     replace h := h.pair 1 9 (by decide)
     replace h := h.pair 1 10 (by decide)
     replace h := h.pair 1 11 (by decide)
     obtain rfl := Option.some.inj hs
     subst hK0
     obtain ⟨o1, o2, o3⟩ := h.outS 1 (C := (.two (.two (.two (.two (.blk sb [v2, uq35x9_2, (.int .i64 (y8)), (.int .i64 (y9))]) (.own nFrame.raw 49 v2 (List.zip (y4.set (((y4.length : Int) - 1)).toNat ({ x12 with regs := (x12.regs.set (a.a).toNat (⟨2, (y7.length : Int)⟩ : Val)) })) us3))) (.pce (famS rVal 51 hn us3 (List.map nFrame.sub (y4.set (((y4.length : Int) - 1)).toNat ({ x12 with regs := (x12.regs.set (a.a).toNat (⟨2, (y7.length : Int)⟩ : Val)) })))))) (.own (nLst Val).raw 47 uq35x9_2 (List.zip (y7 ++ [(List.replicate a.b.toNat (⟨0, 0⟩ : Val))]) usq35x9_4))) (.pce (famS rVal 51 hn usq35x9_4 (List.map (nLst Val).sub (y7 ++ [(List.replicate a.b.toNat (⟨0, 0⟩ : Val))])))) : Chunk)) rfl ⟨⟨⟨⟨trivial, trivial⟩, trivial⟩, trivial⟩, trivial⟩
     exact ⟨o2, v2, uq35x9_2, us3, usq35x9_4, rfl, o1, o3⟩
 ·
  refine wc_seq (wc_region (wl_ok (r_move (v := (.pointer (some ⟨sb, 0, none⟩))) rfl) (wl_ok (r_nilCheck rfl) (wl_ok (r_fieldAddr Fld26x1 rfl) (wl_ok (r_ldB h 1 rfl One24 rfl rfl) (wl_ok (r_lenZ (N := (nLst Val)) SliceOf24 rfl (h.ownS 4 rfl) (h.dnLen 5 rfl)) (wl_ok (r_eql rfl rfl) (wl_nil (then_normal (wc_ifb hs rfl (fun c38 hs => ?_) (fun c38 hs => ?_)))))))))))
  ·
   refine wc_region (wl_ok (r_move (v := (.pointer (some ⟨sb, 0, none⟩))) rfl) (wl_ok (r_move (v := (.pointer (some ⟨sb, 0, none⟩))) rfl) (wl_ok (r_nilCheck rfl) (wl_ok (r_ldBN (vs := [vs0, vs1, (.int .i64 (sx.status)), (.int .i64 (sx.wher))]) h 1 rfl Many26 rfl rfl rfl) ?_))))
   obtain ⟨y39, e40, hs⟩ := o_bind hs
   refine w_call fnOk20 rfl rfl (vm_Sweep_c N _ BE (fun _ h => h.elim) sx vs0 vs1 (h.dnLend (N := nFrame) (R' := rFrame) 2 3 rfl rfl (by decide) rfl nFrame_br) (h.dnLend (N := (nLst Val)) (R' := (rSl rVal)) 4 5 rfl rfl (by decide) rfl nLst_br) _ e40) ?_
   rintro _ w ⟨k47, u41, u43, us42, us44, rfl, h45, h46⟩
   refine ⟨_, rfl, ?_⟩
   replace h := h.gotCF 181 (C := (.two (.two (.two (.own nFrame.raw 49 u41 (List.zip y39.frames us42)) (.pce (famS rVal 51 hn us42 (List.map nFrame.sub y39.frames)))) (.own (nLst Val).raw 47 u43 (List.zip y39.cells us44))) (.pce (famS rVal 51 hn us44 (List.map (nLst Val).sub y39.cells))) : Chunk)) k47 ⟨⟨⟨trivial, trivial⟩, trivial⟩, trivial⟩ ⟨⟨⟨(fun _ _ _ _ _ h => h), (famS_flat (fun _ _ _ _ _ h => h))⟩, (fun _ _ _ _ _ h => h)⟩, (famS_flat (fun _ _ _ _ _ h => h))⟩ h45 h46
   replace h := h.unpair 181 184 (by decide) rfl rfl
   replace h := h.unpair 181 183 (by decide) rfl rfl
   replace h := h.unpair 181 182 (by decide) rfl rfl
   refine wl_ok (r_nilCheck rfl) (w_stN (vs := [u41, u43, (.int .i64 (y39.status)), (.int .i64 (y39.wher))]) h 1 [u41, u43, (.int .i64 (y39.status)), (.int .i64 (y39.wher))] rfl Many26 rfl rfl rfl rfl rfl (ones_cons (h.ownAt 181 rfl).one (ones_cons (h.ownAt 183 rfl).one (ones_cons rfl (ones_cons rfl ones_nil)))) fun w h => wl_nil (then_loop ?_))
   replace h := (h.dropC 8).moveC 181 8 rfl rfl (by decide)
   replace h := (h.dropC 9).moveC 182 9 rfl rfl (by decide)
   replace h := (h.dropC 10).moveC 183 10 rfl rfl (by decide)
   replace h := (h.dropC 11).moveC 184 11 rfl rfl (by decide)
   exact jend (u41, us42, y39.frames, u43, us44, y39.cells, y39.status, y39.wher) ⟨h.cn _, hs⟩
  ·
   refine wc_skip (then_loop ?_)
   replace h := (h.dropC 8).moveC 2 8 rfl rfl (by decide)
   replace h := (h.dropC 9).moveC 3 9 rfl rfl (by decide)
   replace h := (h.dropC 10).moveC 4 10 rfl rfl (by decide)
   replace h := (h.dropC 11).moveC 5 11 rfl rfl (by decide)
   exact jend (vs0, ws0, sx.frames, vs1, ws1, sx.cells, sx.status, sx.wher) ⟨h.cn _, hs⟩
def vm_call_b3 (sx : LX.State) (i11 : Int) (x12 : Int) (y9 : List Val) (nx14 : List Val → Option (Bool × LX.State)) : Option (Bool × LX.State) :=
  grd (I64 ((sx.frames.length : Int) - 1)) ((idx sx.frames ((sx.frames.length : Int) - 1)).bind fun x23 => (idx x23.regs x12).bind fun x33 => (idx y9 i11).bind fun x41 => nx14 (y9.set (i11).toNat x33))
def vm_call_k4 (sx : LX.State) (b : Ins) (a : List Proc) (y9 : List Val) : Option (Bool × LX.State) :=
  grd (Room 48 sx.frames [(⟨b.b, 0, y9, b.a⟩ : LX.Frame)]) (some (true, (⟨(sx.frames ++ [(⟨b.b, 0, y9, b.a⟩ : LX.Frame)]), sx.cells, sx.status, sx.wher⟩ : LX.State)))
def vm_call_b7 (sx : LX.State) (i62 : Int) (x63 : Int) (y60 : List Val) (nx65 : List Val → Option (Bool × LX.State)) : Option (Bool × LX.State) :=
  grd (I64 ((sx.frames.length : Int) - 1)) ((idx sx.frames ((sx.frames.length : Int) - 1)).bind fun x74 => (idx x74.regs x63).bind fun x84 => (idx y60 i62).bind fun x92 => nx65 (y60.set (i62).toNat x84))
def vm_call_k8 (sx : LX.State) (b : Ins) (a : List Proc) (y60 : List Val) : Option (Bool × LX.State) :=
  grd (Room 48 sx.frames [(⟨b.b, 0, y60, b.a⟩ : LX.Frame)]) (some (true, (⟨(sx.frames ++ [(⟨b.b, 0, y60, b.a⟩ : LX.Frame)]), sx.cells, sx.status, sx.wher⟩ : LX.State)))
def vm_call (sx : LX.State) (a : List Proc) (b : Ins) : Option (Bool × LX.State) :=
  bif decide (((sx.frames.length : Int) : Int) = 10) then some (false, sx) else (idx a b.b).bind fun xq3x5_1 => grd (0 ≤ xq3x5_1.regs ∧ xq3x5_1.regs * 16 ≤ 140737488355328) (eachI (vm_call_b3 sx) (vm_call_k4 sx b a) 0 b.args (List.replicate xq3x5_1.regs.toNat (⟨0, 0⟩ : Val)))
theorem vm_call_c (w0 : World) (M : BS) (hM : ∀ b, M b → b < w0.heap.size) (sb : Nat) (sx : LX.State) (vs0 vs1 : Value) (ws0 ws1 : List Value) (hC : Chunk.holds w0 M (Chunk.own' (.two (.two (.two (.two (.blk sb [vs0, vs1, (.int .i64 (sx.status)), (.int .i64 (sx.wher))]) (.own nFrame.raw 49 vs0 (List.zip sx.frames ws0))) (.pce (famS rVal 51 hn ws0 (List.map nFrame.sub sx.frames)))) (.own (nLst Val).raw 47 vs1 (List.zip sx.cells ws1))) (.pce (famS rVal 51 hn ws1 (List.map (nLst Val).sub sx.cells))) : Chunk)) (.two (.two (.two (.two (.blk sb [vs0, vs1, (.int .i64 (sx.status)), (.int .i64 (sx.wher))]) (.own nFrame.raw 49 vs0 (List.zip sx.frames ws0))) (.pce (famS rVal 51 hn ws0 (List.map nFrame.sub sx.frames)))) (.own (nLst Val).raw 47 vs1 (List.zip sx.cells ws1))) (.pce (famS rVal 51 hn ws1 (List.map (nLst Val).sub sx.cells))) : Chunk)) (hap : ∀ b, Chunk.own' (.two (.two (.two (.two (.blk sb [vs0, vs1, (.int .i64 (sx.status)), (.int .i64 (sx.wher))]) (.own nFrame.raw 49 vs0 (List.zip sx.frames ws0))) (.pce (famS rVal 51 hn ws0 (List.map nFrame.sub sx.frames)))) (.own (nLst Val).raw 47 vs1 (List.zip sx.cells ws1))) (.pce (famS rVal 51 hn ws1 (List.map (nLst Val).sub sx.cells))) : Chunk) b → ¬ M b) (va : Value) (a : List Proc) (ha : RdSl rProc w0 (fun b => M b ∨ (.two (.two (.two (.two (.blk sb [vs0, vs1, (.int .i64 (sx.status)), (.int .i64 (sx.wher))]) (.own nFrame.raw 49 vs0 (List.zip sx.frames ws0))) (.pce (famS rVal 51 hn ws0 (List.map nFrame.sub sx.frames)))) (.own (nLst Val).raw 47 vs1 (List.zip sx.cells ws1))) (.pce (famS rVal 51 hn ws1 (List.map (nLst Val).sub sx.cells))) : Chunk).own' b) va a) (b : Ins) (vb4 : Value) (hb4 : RdSl rInt w0 (fun b => M b ∨ (.two (.two (.two (.two (.blk sb [vs0, vs1, (.int .i64 (sx.status)), (.int .i64 (sx.wher))]) (.own nFrame.raw 49 vs0 (List.zip sx.frames ws0))) (.pce (famS rVal 51 hn ws0 (List.map nFrame.sub sx.frames)))) (.own (nLst Val).raw 47 vs1 (List.zip sx.cells ws1))) (.pce (famS rVal 51 hn ws1 (List.map (nLst Val).sub sx.cells))) : Chunk).own' b) vb4 b.args) (r : Bool × LX.State) (hs : vm_call sx a b = some r) :
    Calls Tryz.prog 90 #[va, (.pointer (some ⟨sb, 0, none⟩)), (.agg #[(.int .i64 (b.op)), (.int .i64 (b.a)), (.int .i64 (b.b)), (.int .i64 (b.c)), vb4])] w0 (fun e w' => Keep (Chunk.own' (.two (.two (.two (.two (.blk sb [vs0, vs1, (.int .i64 (sx.status)), (.int .i64 (sx.wher))]) (.own nFrame.raw 49 vs0 (List.zip sx.frames ws0))) (.pce (famS rVal 51 hn ws0 (List.map nFrame.sub sx.frames)))) (.own (nLst Val).raw 47 vs1 (List.zip sx.cells ws1))) (.pce (famS rVal 51 hn ws1 (List.map (nLst Val).sub sx.cells))) : Chunk)) w0 w' ∧ ∃ us0, ∃ us1, ∃ wt0, ∃ wt1, e = .returned (.bool r.1) ∧ Chunk.holds w' M (Chunk.own' (.two (.two (.two (.two (.blk sb [us0, us1, .int .i64 r.2.status, .int .i64 r.2.wher]) (.own nFrame.raw 49 us0 (List.zip r.2.frames wt0))) (.pce (famS rVal 51 hn wt0 (List.map nFrame.sub r.2.frames)))) (.own (nLst Val).raw 47 us1 (List.zip r.2.cells wt1))) (.pce (famS rVal 51 hn wt1 (List.map (nLst Val).sub r.2.cells))) : Chunk)) (.two (.two (.two (.two (.blk sb [us0, us1, .int .i64 r.2.status, .int .i64 r.2.wher]) (.own nFrame.raw 49 us0 (List.zip r.2.frames wt0))) (.pce (famS rVal 51 hn wt0 (List.map nFrame.sub r.2.frames)))) (.own (nLst Val).raw 47 us1 (List.zip r.2.cells wt1))) (.pce (famS rVal 51 hn wt1 (List.map (nLst Val).sub r.2.cells))) : Chunk) ∧ (∀ b, Chunk.own' (.two (.two (.two (.two (.blk sb [us0, us1, .int .i64 r.2.status, .int .i64 r.2.wher]) (.own nFrame.raw 49 us0 (List.zip r.2.frames wt0))) (.pce (famS rVal 51 hn wt0 (List.map nFrame.sub r.2.frames)))) (.own (nLst Val).raw 47 us1 (List.zip r.2.cells wt1))) (.pce (famS rVal 51 hn wt1 (List.map (nLst Val).sub r.2.cells))) : Chunk) b → b < w0.heap.size → Chunk.own' (.two (.two (.two (.two (.blk sb [vs0, vs1, (.int .i64 (sx.status)), (.int .i64 (sx.wher))]) (.own nFrame.raw 49 vs0 (List.zip sx.frames ws0))) (.pce (famS rVal 51 hn ws0 (List.map nFrame.sub sx.frames)))) (.own (nLst Val).raw 47 vs1 (List.zip sx.cells ws1))) (.pce (famS rVal 51 hn ws1 (List.map (nLst Val).sub sx.cells))) : Chunk) b)) := by
 refine calls_start (args := [va, (.pointer (some ⟨sb, 0, none⟩)), (.agg #[(.int .i64 (b.op)), (.int .i64 (b.a)), (.int .i64 (b.b)), (.int .i64 (b.c)), vb4])]) Tryz.func90 rfl Tryz.ntmps90 (Nat.le_of_ble_eq_true rfl) ?_
 have h := SH.init1 hM hC hap
 replace h := h.argRdC 6 ha own1
 replace h := h.argRdC 7 hb4 (own1_rd own1)
 generalize hK0 : (.two (.two (.two (.two (.blk sb [vs0, vs1, (.int .i64 (sx.status)), (.int .i64 (sx.wher))]) (.own nFrame.raw 49 vs0 (List.zip sx.frames ws0))) (.pce (famS rVal 51 hn ws0 (List.map nFrame.sub sx.frames)))) (.own (nLst Val).raw 47 vs1 (List.zip sx.cells ws1))) (.pce (famS rVal 51 hn ws1 (List.map (nLst Val).sub sx.cells))) : Chunk).own' = K0 at h
 replace h := h.unpair 1 5 (by decide) rfl rfl
 replace h := h.unpair 1 4 (by decide) rfl rfl
 replace h := h.unpair 1 3 (by decide) rfl rfl
 replace h := h.unpair 1 2 (by decide) rfl rfl
 have hl_a := ha.len_le
 refine wc_seq (wc_region (w_box (cs := [(.int .i64 (b.op)), (.int .i64 (b.a)), (.int .i64 (b.b)), (.int .i64 (b.c)), vb4]) h 8 rfl rfl fun w b1 h => wl_ok (r_assign (v := (.bool (false))) rfl) (wl_nil (then_normal (wc_seq (wc_seq (wc_region (wl_ok (r_move (v := (.pointer (some ⟨sb, 0, none⟩))) rfl) (wl_ok (r_nilCheck rfl) (wl_ok (r_fieldAddr Fld26x0 rfl) (wl_ok (r_ldB h 1 rfl One23 rfl rfl) (wl_ok (r_lenZ (N := nFrame) SliceOf23 rfl (h.ownS 2 rfl) (h.dnLen 3 rfl)) (wl_ok (r_eql rfl rfl) (wl_nil (then_normal (wc_ifb hs rfl (fun c2 hs => ?_) (fun c2 hs => ?_)))))))))))))))))
 ·
  refine wc_seq (wc_region (wl_ok (r_assign (v := (.bool (false))) rfl) (wl_nil (then_normal (wc_ret (then_ret (fin1 (v := (.bool (false))) Tryz.results90 rfl ?_)))))))
  replace h := h.pair 1 2 (by decide)
  replace h := h.pair 1 3 (by decide)
  replace h := h.pair 1 4 (by decide)
  replace h := h.pair 1 5 (by decide)
  obtain rfl := Option.some.inj hs
  subst hK0
  obtain ⟨o1, o2, o3⟩ := h.outS 1 (C := (.two (.two (.two (.two (.blk sb [vs0, vs1, (.int .i64 (sx.status)), (.int .i64 (sx.wher))]) (.own nFrame.raw 49 vs0 (List.zip sx.frames ws0))) (.pce (famS rVal 51 hn ws0 (List.map nFrame.sub sx.frames)))) (.own (nLst Val).raw 47 vs1 (List.zip sx.cells ws1))) (.pce (famS rVal 51 hn ws1 (List.map (nLst Val).sub sx.cells))) : Chunk)) rfl ⟨⟨⟨⟨trivial, trivial⟩, trivial⟩, trivial⟩, trivial⟩
  exact ⟨o2, vs0, vs1, ws0, ws1, rfl, o1, o3⟩
 ·
  refine wc_skip (then_normal (wc_seq (wc_held mixed h fun w h => wh_ok 0 (Keep.refl BE _) rfl want_none (by kernel_rfl) (by kernel_rfl) (by kernel_rfl) (fun w hk => r_fieldAddr Fld93x2 rfl) (wh_ok 1 (Keep.refl BE _) rfl want_none (by kernel_rfl) (by kernel_rfl) (by kernel_rfl) (fun w hk => have h := h.grow hk; r_ldB h 8 rfl One3 rfl rfl) (wh_ok 2 (Keep.refl BE _) rfl want_none (by kernel_rfl) (by kernel_rfl) (by kernel_rfl) (fun w hk => r_move (v := va) rfl) (wh_ok 3 (Keep.refl BE _) rfl want_none (by kernel_rfl) (by kernel_rfl) (by kernel_rfl) (fun w hk => r_fieldAddr Fld93x2 rfl) (wh_ok 4 (Keep.refl BE _) rfl want_none (by kernel_rfl) (by kernel_rfl) (by kernel_rfl) (fun w hk => have h := h.grow hk; r_ldB h 8 rfl One3 rfl rfl) ?_)))))))
  obtain ⟨xq3x5_1, eq3x5_2, hs⟩ := o_bind hs
  obtain ⟨bq3x5_4, oq3x5_5, csq3x5_6, h, rq3x5_7, iq3x5_3⟩ := h.ixR 6 69 rfl SliceOf22 rfl (o_idx eq3x5_2).1 (o_idx eq3x5_2).2
  obtain ⟨uq3x5_8, rfl, gq3x5_9⟩ := rProc_open rq3x5_7
  replace h := h.knowRd 70 gq3x5_9.up
  refine wh_ok 5 (Keep.refl BE _) rfl want_none (by kernel_rfl) (by kernel_rfl) (by kernel_rfl) (fun w hk => iq3x5_3 _ _ _ _ _ _ _ _ _ rfl rfl) (wh_ok 6 (Keep.refl BE _) rfl want_none (by kernel_rfl) (by kernel_rfl) (by kernel_rfl) (fun w hk => r_fieldAddr Fld57x1 rfl) (wh_ok 7 (Keep.refl BE _) rfl want_none (by kernel_rfl) (by kernel_rfl) (by kernel_rfl) (fun w hk => have h := h.grow hk; r_ldP (k := 1) h 69 rfl One3 rfl rfl) (wh_ok 9 (Keep.refl BE _) rfl want_none (by kernel_rfl) (by kernel_rfl) (by kernel_rfl) (fun w hk => r_fieldAddr Fld93x1 rfl) (wh_ok 10 (Keep.refl BE _) rfl want_none (by kernel_rfl) (by kernel_rfl) (by kernel_rfl) (fun w hk => have h := h.grow hk; r_ldB h 8 rfl One3 rfl rfl) ?_))))
  obtain ⟨aq3x8_2, hs⟩ := o_grd hs
  obtain ⟨ws4, ws4e⟩ : ∃ x, x = w := ⟨_, rfl⟩
  have hg5 : Grow ws4 w := ws4e ▸ Keep.refl BE w
  refine wh_at ws4e.symm (wh_eff2 8 12 (by kernel_rfl) rfl want_none rfl want_none ?_ ?_)
  ·
   refine w_makeSlN (R := rVal) (zs := [(.int .i64 (0)), (.int .i64 (0))]) (a := (⟨0, 0⟩ : Val)) h 105 ElemOf47 Many51 rfl (by decide) rfl rfl aq3x8_2 rfl (fun _ _ => rfl) fun w uq3x8_1 h uq3x8_1k uq3x8_1f => ?_
   have uq3x8_1q : ∀ b, ob uq3x8_1 b → ws4.heap.size ≤ b := fun b hb => Nat.le_trans hg5.size (uq3x8_1f b hb)
   replace hg5 := hg5.trans uq3x8_1k
   refine wl_nil (wh_back hg5 (wh_ok 11 hg5 rfl want_none (by kernel_rfl) (by kernel_rfl) (by kernel_rfl) (fun w hk => r_build (pv := [(0, (.int .i64 (b.b))), (2, uq3x8_1), (3, (.int .i64 (b.a)))]) (out := [(.int .i64 (b.b)), (.int .i64 (0)), uq3x8_1, (.int .i64 (b.a))]) Struct49 rfl ⟨0, 1, [(.int .i64 (b.b))], rfl, rfl, rfl, Nat.le_of_ble_eq_true rfl, ⟨2, 1, [uq3x8_1], rfl, (toList_of_one (h.ownAt 105 rfl).one), rfl, Nat.le_of_ble_eq_true rfl, ⟨3, 1, [(.int .i64 (b.a))], rfl, rfl, rfl, Nat.le_of_ble_eq_true rfl, rfl⟩⟩⟩) (wh_eff 12 (by kernel_rfl) rfl want_none (w_allocNG h 153 Many49 fun w bq3x12_1 h bq3x12_1k bq3x12_1f => ?_))))
   have bq3x12_1q : ws4.heap.size ≤ bq3x12_1 := Nat.le_trans hg5.size bq3x12_1f
   replace hg5 := hg5.trans bq3x12_1k
   refine wl_nil (wh_back hg5 (wh_eff 13 (by kernel_rfl) rfl want_none (w_stNG (vs := [(.int .i64 (b.b)), (.int .i64 (0)), uq3x8_1, (.int .i64 (b.a))]) h 153 [(.int .i64 (b.b)), (.int .i64 (0)), uq3x8_1, (.int .i64 (b.a))] rfl Many49 rfl rfl rfl rfl rfl (ones_cons rfl (ones_cons rfl (ones_cons (h.ownAt 105 rfl).one (ones_cons rfl ones_nil)))) fun w h kq3x13_1 => ?_)))
   replace hg5 := hg5.fresh kq3x13_1 (fun x hx => hx ▸ bq3x12_1q)
   refine wl_nil (wh_back hg5 (wh_done (by kernel_rfl) (then_normal (wc_seq (wc_seq (wc_region (wl_ok (r_fieldAddr Fld93x4 rfl) (wl_ok (r_ldB h 8 rfl One27 rfl rfl) (wl_ok (r_len SliceOf27 rfl (h.rdS 7 rfl)) (wl_ok (r_move (v := (.int .i64 (0))) rfl) (wl_nil (then_normal (wc_block (wc_lp (σ := Nat × Int × List Val) (inl [8, 9, 31, 32, 33, 34, 35, 36, 37, 38, 39, 40, 41, 42, 43, 44, 45, 46, 47, 48, 49, 50, 51, 52, 53, 54, 55, 56]) (fun ⟨k10, i11, y9⟩ => [(31, (.int .i64 (i11)))]) (fun ⟨k10, i11, y9⟩ w => SH w0 M K0 w (hset [(1, .blk sb [vs0, vs1, (.int .i64 (sx.status)), (.int .i64 (sx.wher))]), (2, .own nFrame.raw 49 vs0 (List.zip sx.frames ws0)), (3, .pce (famS rVal 51 hn ws0 (List.map nFrame.sub sx.frames))), (4, .own (nLst Val).raw 47 vs1 (List.zip sx.cells ws1)), (5, .pce (famS rVal 51 hn ws1 (List.map (nLst Val).sub sx.cells))), (7, .rd rInt vb4 b.args), (105, .own rVal 51 uq3x8_1 y9), (153, .blk bq3x12_1 [(.int .i64 (b.b)), (.int .i64 (0)), uq3x8_1, (.int .i64 (b.a))])]) ∧ i11 = (k10 : Int) ∧ eachI (vm_call_b3 sx) (vm_call_k4 sx b a) i11 (b.args.drop k10) y9 = some r) (fun ⟨k10, i11, y9⟩ => b.args.length - k10) ⟨0, 0, (List.replicate xq3x5_1.regs.toNat (⟨0, 0⟩ : Val))⟩ ⟨rfl, trivial⟩ ?_ ?_))))))))))))))
   ·
    exact ⟨h.cn _, rfl, hs⟩
   ·
    rintro ⟨k10, i11, y9⟩ w junk ⟨h, hik, hs⟩
    refine wc_seq (wc_region ?_)
    refine wl_ok (r_lss rfl rfl) (wl_nil (then_normal ?_))
    refine wc_seq (wc_if rfl (fun e15 => ?_) (fun e15 => ?_))
    ·
     refine wc_skip (then_normal ?_)
     obtain ⟨x12, e16a, e16b⟩ := drop_lt (hik ▸ e15)
     rw [e16b, eachI_cons] at hs
     generalize hnx14 : eachI (vm_call_b3 sx) (vm_call_k4 sx b a) (i11 + 1) (b.args.drop (k10 + 1)) = nx14 at hs
     have e16r := nat_rng ((h.rdS 7 rfl)).len_le hik e15
     refine wc_seq (wc_block (wc_seq (wc_region (wl_ok (r_move (v := (.int .i64 (i11))) rfl) ?_))))
     obtain ⟨b18, o19, cs20, h, r21, i17⟩ := h.ixR 7 189 rfl SliceOf27 rfl (nat_nn hik) (get_nat hik e16a)
     obtain rfl := r21
     refine wl_ok (i17 _ _ _ _ _ _ _ _ _ rfl rfl) (wl_ok (r_ldP (k := 0) h 189 rfl One3 rfl rfl) (wl_ok (r_assign (v := (.int .i64 (i11))) rfl) (wl_ok (r_assign (v := (.int .i64 (x12))) rfl) (wl_nil (then_normal (wc_tail 20 mixed (by kernel_rfl) h fun w h => wk_ok (r_fieldAddr Fld49x2 rfl) (wk_ok (r_ldB h 153 rfl One47 rfl rfl) (wk_ok (r_move (v := (.int .i64 (i11))) rfl) (wk_ok (r_move (v := (.pointer (some ⟨sb, 0, none⟩))) rfl) (wk_ok (r_nilCheck rfl) (wk_ok (r_fieldAddr Fld26x0 rfl) (wk_ok (r_ldB h 1 rfl One23 rfl rfl) (wk_ok (r_move (v := (.pointer (some ⟨sb, 0, none⟩))) rfl) (wk_ok (r_nilCheck rfl) (wk_ok (r_fieldAddr Fld26x0 rfl) (wk_ok (r_ldB h 1 rfl One23 rfl rfl) (wk_ok (r_lenZ (N := nFrame) SliceOf23 rfl (h.ownS 2 rfl) (h.dnLen 3 rfl)) ?_)))))))))))))))))
     obtain ⟨a22, hs⟩ := o_grd hs
     refine wk_ok (r_sub rfl rfl a22) ?_
     obtain ⟨x23, e24, hs⟩ := o_bind hs
     obtain ⟨u28, e29, h⟩ := h.dnOpenL 3 190 x23.regs rfl rfl (by decide) (o_idx e24).2 rfl
     obtain ⟨b26, q27, i25⟩ := h.ixO 2 rfl SliceOf23 rfl (o_idx e24).1 (zip_at (o_idx e24).2 e29)
     refine wk_ok (i25 _ _ _ _ _ _ _ _ _ rfl rfl) (wk_ok (r_fieldAddr Fld49x2 rfl) ?_)
     obtain ⟨cs30, m31, r32⟩ := h.elO 2 rfl q27 (zip_at (o_idx e24).2 e29)
     obtain ⟨rfl, -⟩ := r32
     refine wk_ok (r_ldA (k := 2) m31 One47 rfl rfl) (wk_ok (r_move (v := (.int .i64 (x12))) rfl) ?_)
     obtain ⟨x33, e34, hs⟩ := o_bind hs
     obtain ⟨b36, q37, i35⟩ := h.ixO 190 rfl SliceOf47 rfl (o_idx e34).1 (o_idx e34).2
     refine wk_ok (i35 _ _ _ _ _ _ _ _ _ rfl rfl) ?_
     obtain ⟨cs38, m39, r40⟩ := h.elO 190 rfl q37 (o_idx e34).2
     obtain rfl := r40
     refine wk_ok (r_ldAN (k := 0) (vs := [(.int .i64 (x33.kind)), (.int .i64 (x33.n))]) m39 Many51 rfl rfl rfl (Nat.le_of_ble_eq_true rfl)) ?_
     obtain ⟨x41, e42, hs⟩ := o_bind hs
     obtain ⟨b44, q45, i43⟩ := h.ixO 105 rfl SliceOf47 rfl (o_idx e42).1 (o_idx e42).2
     refine wk_ok (i43 _ _ _ _ _ _ _ _ _ rfl rfl) (wk_go (w_stON (a' := x33) (vs := [(.int .i64 (x33.kind)), (.int .i64 (x33.n))]) h 105 rfl q45 rfl (o_idx e42).2 Many51 rfl rfl rfl rfl rfl fun w h k46 => wl_nil (inBlock_normal (then_normal (wc_region (wl_ok (r_add rfl rfl e16r) (wl_ok (r_move (v := (.int .i64 ((i11 + 1)))) rfl) (wl_nil ?_))))))))
     replace h := h.dnClose0 3 190 rfl rfl (by decide) (o_idx e24).2 e29 rfl
     refine then_loop ?_
     subst hnx14
     exact lend ⟨k10 + 1, i11 + 1, (y9.set (i11).toNat x33)⟩ ⟨h.cn _, by omega, hs⟩ (by have := of_decide_eq_true e15; dsimp only; omega)
    ·
     rw [drop_ge (hik ▸ e15), eachI_nil] at hs
     refine wc_exit (then_exit (then_exit (inBlock_eq (then_normal (wc_seq (wck_held (L := (fun b => ob vs0 b ∨ b = sb)) mixed h fun w h => whk_ok 0 (Keep.refl _ _) rfl want_none (by kernel_rfl) (by kernel_rfl) (by kernel_rfl) (fun w hk => r_move (v := (.pointer (some ⟨sb, 0, none⟩))) rfl) (whk_ok 1 (Keep.refl _ _) rfl want_none (by kernel_rfl) (by kernel_rfl) (by kernel_rfl) (fun w hk => r_move (v := (.pointer (some ⟨sb, 0, none⟩))) rfl) (whk_ok 2 (Keep.refl _ _) rfl want_none (by kernel_rfl) (by kernel_rfl) (by kernel_rfl) (fun w hk => r_nilCheck rfl) (whk_ok 3 (Keep.refl _ _) rfl want_none (by kernel_rfl) (by kernel_rfl) (by kernel_rfl) (fun w hk => r_fieldAddr Fld26x0 rfl) (whk_ok 5 (Keep.refl _ _) rfl want_none (by kernel_rfl) (by kernel_rfl) (by kernel_rfl) (fun w hk => have h := h.loseC2 2 1 (by decide) rfl rfl hk; r_ldBN (vs := [(.int .i64 (b.b)), (.int .i64 (0)), uq3x8_1, (.int .i64 (b.a))]) h 153 rfl Many49 rfl rfl rfl) ?_))))))))))
     obtain ⟨aq54x7_1, hs⟩ := o_grd hs
     obtain ⟨ws55, ws55e⟩ : ∃ x, x = w := ⟨_, rfl⟩
     have hg56 : Keep (fun b => ob vs0 b ∨ b = sb) ws55 w := ws55e ▸ Keep.refl (fun b => ob vs0 b ∨ b = sb) w
     refine whk_at ws55e.symm (whk_eff2 4 6 (by kernel_rfl) rfl want_none rfl want_none ?_ ?_)
     ·
      refine wl_ok (r_ldB h 1 rfl One23 rfl rfl) (wl_nil (whk_back hg56 (whk_eff 6 (by kernel_rfl) rfl want_none ?_)))
      have uq54x6_1o : (Value.oneCell' uq3x8_1) = true := (h.ownAt 105 rfl).one
      refine w_bsG (R := nFrame.raw) (vs := [(.agg #[(.int .i64 (b.b)), (.int .i64 (0)), uq3x8_1, (.int .i64 (b.a))])]) (xs := List.zip [(⟨b.b, 0, y9, b.a⟩ : LX.Frame)] [uq3x8_1]) h 263 ElemOf23 rfl rfl rfl ⟨⟨rfl, uq54x6_1o⟩, trivial⟩ rfl fun w uq54x6_1 h uq54x6_1k uq54x6_1f => ?_
      have uq54x6_1q : ∀ b, ob uq54x6_1 b → ws55.heap.size ≤ b := fun b hb => Nat.le_trans hg56.size (uq54x6_1f b hb)
      replace hg56 := hg56.grow uq54x6_1k
      replace h := h.famNewL (N := nFrame) 105 (⟨b.b, 0, y9, b.a⟩ : LX.Frame) rfl rfl
      refine wl_nil (whk_back hg56 (whk_eff 7 (by kernel_rfl) rfl want_none ?_))
      have zq54x7_3 := h.dnLen 3 rfl
      have zq54x7_3b := h.dnLen 105 rfl
      have uq54x7_2z := hg56.size
      refine w_appGN (R := nFrame.raw) (m := List.zip [(⟨b.b, 0, y9, b.a⟩ : LX.Frame)] [uq3x8_1]) h 2 rfl (h.ownS 263 rfl) ElemOf23 rfl rfl rfl (by rw [zip_len zq54x7_3, zip_len zq54x7_3b]; exact aq54x7_1.1) (by rw [zip_len zq54x7_3, zip_len zq54x7_3b]; exact aq54x7_1.2) fun w uq54x7_2 h uq54x7_2k uq54x7_2n => ?_
      have uq54x7_2q : ∀ b, ob uq54x7_2 b → b < ws55.heap.size → ob vs0 b := fun b hb hl => uq54x7_2n b hb (Nat.lt_of_lt_of_le hl (hg56).size)
      replace hg56 := Keep.step hg56 uq54x7_2k (fun _ hx _ => .inl (hx))
      replace h := (h.famJoin 3 105 rfl rfl (by decide)).dropC 263
      rw [zip_app zq54x7_3, ← List.map_append] at h
      obtain ⟨usq54x7_4, usq54x7_4e⟩ : ∃ z, z = ws0 ++ [uq3x8_1] := ⟨_, rfl⟩
      rw [← usq54x7_4e] at h
      refine wl_nil (whk_back hg56 (whk_ok 8 hg56 rfl want_none (by kernel_rfl) (by kernel_rfl) (by kernel_rfl) (fun w hk => r_nilCheck rfl) (whk_ok 9 hg56 rfl want_none (by kernel_rfl) (by kernel_rfl) (by kernel_rfl) (fun w hk => r_fieldAddr Fld26x0 rfl) (whk_eff 10 (by kernel_rfl) rfl want_none (w_st1G h 1 [uq54x7_2, vs1, (.int .i64 (sx.status)), (.int .i64 (sx.wher))] rfl One23 rfl rfl rfl rfl (h.ownAt 2 rfl).one fun w h kq54x10_1 => ?_)))))
      replace hg56 := Keep.step hg56 kq54x10_1 (fun _ hx _ => .inr (hx))
      refine wl_nil (whk_back hg56 (whk_done (by kernel_rfl) (then_normal (wc_seq (wc_region (wl_ok (r_assign (v := (.bool (true))) rfl) (wl_nil (then_normal (wc_ret (fin1 (v := (.bool (true))) Tryz.results90 rfl ?_))))))))))
      replace h := h.pair 1 2 (by decide)
      replace h := h.pair 1 3 (by decide)
      replace h := h.pair 1 4 (by decide)
      replace h := h.pair 1 5 (by decide)
      obtain rfl := Option.some.inj hs
      subst hK0
      obtain ⟨o1, o2, o3⟩ := h.outS 1 (C := (.two (.two (.two (.two (.blk sb [uq54x7_2, vs1, (.int .i64 (sx.status)), (.int .i64 (sx.wher))]) (.own nFrame.raw 49 uq54x7_2 (List.zip (sx.frames ++ [(⟨b.b, 0, y9, b.a⟩ : LX.Frame)]) usq54x7_4))) (.pce (famS rVal 51 hn usq54x7_4 (List.map nFrame.sub (sx.frames ++ [(⟨b.b, 0, y9, b.a⟩ : LX.Frame)]))))) (.own (nLst Val).raw 47 vs1 (List.zip sx.cells ws1))) (.pce (famS rVal 51 hn ws1 (List.map (nLst Val).sub sx.cells))) : Chunk)) rfl ⟨⟨⟨⟨trivial, trivial⟩, trivial⟩, trivial⟩, trivial⟩
      exact ⟨o2, uq54x7_2, vs1, usq54x7_4, ws1, rfl, o1, o3⟩
     ·
      have uq54x6_1o : (Value.oneCell' uq3x8_1) = true := (h.ownAt 105 rfl).one
      refine w_bsG (R := nFrame.raw) (vs := [(.agg #[(.int .i64 (b.b)), (.int .i64 (0)), uq3x8_1, (.int .i64 (b.a))])]) (xs := List.zip [(⟨b.b, 0, y9, b.a⟩ : LX.Frame)] [uq3x8_1]) h 263 ElemOf23 rfl rfl rfl ⟨⟨rfl, uq54x6_1o⟩, trivial⟩ rfl fun w uq54x6_1 h uq54x6_1k uq54x6_1f => ?_
      have uq54x6_1q : ∀ b, ob uq54x6_1 b → ws55.heap.size ≤ b := fun b hb => Nat.le_trans hg56.size (uq54x6_1f b hb)
      replace hg56 := hg56.grow uq54x6_1k
      replace h := h.famNewL (N := nFrame) 105 (⟨b.b, 0, y9, b.a⟩ : LX.Frame) rfl rfl
      refine wl_nil (whk_back hg56 (whk_eff 4 (by kernel_rfl) rfl want_none (wl_ok (r_ldB h 1 rfl One23 rfl rfl) (wl_nil (whk_back hg56 (whk_eff 7 (by kernel_rfl) rfl want_none ?_))))))
      have zq54x7_3 := h.dnLen 3 rfl
      have zq54x7_3b := h.dnLen 105 rfl
      have uq54x7_2z := hg56.size
      refine w_appGN (R := nFrame.raw) (m := List.zip [(⟨b.b, 0, y9, b.a⟩ : LX.Frame)] [uq3x8_1]) h 2 rfl (h.ownS 263 rfl) ElemOf23 rfl rfl rfl (by rw [zip_len zq54x7_3, zip_len zq54x7_3b]; exact aq54x7_1.1) (by rw [zip_len zq54x7_3, zip_len zq54x7_3b]; exact aq54x7_1.2) fun w uq54x7_2 h uq54x7_2k uq54x7_2n => ?_
      have uq54x7_2q : ∀ b, ob uq54x7_2 b → b < ws55.heap.size → ob vs0 b := fun b hb hl => uq54x7_2n b hb (Nat.lt_of_lt_of_le hl (hg56).size)
      replace hg56 := Keep.step hg56 uq54x7_2k (fun _ hx _ => .inl (hx))
      replace h := (h.famJoin 3 105 rfl rfl (by decide)).dropC 263
      rw [zip_app zq54x7_3, ← List.map_append] at h
      obtain ⟨usq54x7_4, usq54x7_4e⟩ : ∃ z, z = ws0 ++ [uq3x8_1] := ⟨_, rfl⟩
      rw [← usq54x7_4e] at h
      refine wl_nil (whk_back hg56 (whk_ok 8 hg56 rfl want_none (by kernel_rfl) (by kernel_rfl) (by kernel_rfl) (fun w hk => r_nilCheck rfl) (whk_ok 9 hg56 rfl want_none (by kernel_rfl) (by kernel_rfl) (by kernel_rfl) (fun w hk => r_fieldAddr Fld26x0 rfl) (whk_eff 10 (by kernel_rfl) rfl want_none (w_st1G h 1 [uq54x7_2, vs1, (.int .i64 (sx.status)), (.int .i64 (sx.wher))] rfl One23 rfl rfl rfl rfl (h.ownAt 2 rfl).one fun w h kq54x10_1 => ?_)))))
      replace hg56 := Keep.step hg56 kq54x10_1 (fun _ hx _ => .inr (hx))
      refine wl_nil (whk_back hg56 (whk_done (by kernel_rfl) (then_normal (wc_seq (wc_region (wl_ok (r_assign (v := (.bool (true))) rfl) (wl_nil (then_normal (wc_ret (fin1 (v := (.bool (true))) Tryz.results90 rfl ?_))))))))))
      replace h := h.pair 1 2 (by decide)
      replace h := h.pair 1 3 (by decide)
      replace h := h.pair 1 4 (by decide)
      replace h := h.pair 1 5 (by decide)
      obtain rfl := Option.some.inj hs
      subst hK0
      obtain ⟨o1, o2, o3⟩ := h.outS 1 (C := (.two (.two (.two (.two (.blk sb [uq54x7_2, vs1, (.int .i64 (sx.status)), (.int .i64 (sx.wher))]) (.own nFrame.raw 49 uq54x7_2 (List.zip (sx.frames ++ [(⟨b.b, 0, y9, b.a⟩ : LX.Frame)]) usq54x7_4))) (.pce (famS rVal 51 hn usq54x7_4 (List.map nFrame.sub (sx.frames ++ [(⟨b.b, 0, y9, b.a⟩ : LX.Frame)]))))) (.own (nLst Val).raw 47 vs1 (List.zip sx.cells ws1))) (.pce (famS rVal 51 hn ws1 (List.map (nLst Val).sub sx.cells))) : Chunk)) rfl ⟨⟨⟨⟨trivial, trivial⟩, trivial⟩, trivial⟩, trivial⟩
      exact ⟨o2, uq54x7_2, vs1, usq54x7_4, ws1, rfl, o1, o3⟩
  ·
   refine w_allocNG h 153 Many49 fun w bq3x12_1 h bq3x12_1k bq3x12_1f => ?_
   have bq3x12_1q : ws4.heap.size ≤ bq3x12_1 := Nat.le_trans hg5.size bq3x12_1f
   replace hg5 := hg5.trans bq3x12_1k
   refine wl_nil (wh_back hg5 (wh_eff 8 (by kernel_rfl) rfl want_none (w_makeSlN (R := rVal) (zs := [(.int .i64 (0)), (.int .i64 (0))]) (a := (⟨0, 0⟩ : Val)) h 105 ElemOf47 Many51 rfl (by decide) rfl rfl aq3x8_2 rfl (fun _ _ => rfl) fun w uq3x8_1 h uq3x8_1k uq3x8_1f => ?_)))
   have uq3x8_1q : ∀ b, ob uq3x8_1 b → ws4.heap.size ≤ b := fun b hb => Nat.le_trans hg5.size (uq3x8_1f b hb)
   replace hg5 := hg5.trans uq3x8_1k
   refine wl_nil (wh_back hg5 (wh_ok 11 hg5 rfl want_none (by kernel_rfl) (by kernel_rfl) (by kernel_rfl) (fun w hk => r_build (pv := [(0, (.int .i64 (b.b))), (2, uq3x8_1), (3, (.int .i64 (b.a)))]) (out := [(.int .i64 (b.b)), (.int .i64 (0)), uq3x8_1, (.int .i64 (b.a))]) Struct49 rfl ⟨0, 1, [(.int .i64 (b.b))], rfl, rfl, rfl, Nat.le_of_ble_eq_true rfl, ⟨2, 1, [uq3x8_1], rfl, (toList_of_one (h.ownAt 105 rfl).one), rfl, Nat.le_of_ble_eq_true rfl, ⟨3, 1, [(.int .i64 (b.a))], rfl, rfl, rfl, Nat.le_of_ble_eq_true rfl, rfl⟩⟩⟩) (wh_eff 13 (by kernel_rfl) rfl want_none (w_stNG (vs := [(.int .i64 (b.b)), (.int .i64 (0)), uq3x8_1, (.int .i64 (b.a))]) h 153 [(.int .i64 (b.b)), (.int .i64 (0)), uq3x8_1, (.int .i64 (b.a))] rfl Many49 rfl rfl rfl rfl rfl (ones_cons rfl (ones_cons rfl (ones_cons (h.ownAt 105 rfl).one (ones_cons rfl ones_nil)))) fun w h kq3x13_1 => ?_))))
   replace hg5 := hg5.fresh kq3x13_1 (fun x hx => hx ▸ bq3x12_1q)
   refine wl_nil (wh_back hg5 (wh_done (by kernel_rfl) (then_normal (wc_seq (wc_seq (wc_region (wl_ok (r_fieldAddr Fld93x4 rfl) (wl_ok (r_ldB h 8 rfl One27 rfl rfl) (wl_ok (r_len SliceOf27 rfl (h.rdS 7 rfl)) (wl_ok (r_move (v := (.int .i64 (0))) rfl) (wl_nil (then_normal (wc_block (wc_lp (σ := Nat × Int × List Val) (inl [8, 9, 31, 32, 33, 34, 35, 36, 37, 38, 39, 40, 41, 42, 43, 44, 45, 46, 47, 48, 49, 50, 51, 52, 53, 54, 55, 56]) (fun ⟨k61, i62, y60⟩ => [(31, (.int .i64 (i62)))]) (fun ⟨k61, i62, y60⟩ w => SH w0 M K0 w (hset [(1, .blk sb [vs0, vs1, (.int .i64 (sx.status)), (.int .i64 (sx.wher))]), (2, .own nFrame.raw 49 vs0 (List.zip sx.frames ws0)), (3, .pce (famS rVal 51 hn ws0 (List.map nFrame.sub sx.frames))), (4, .own (nLst Val).raw 47 vs1 (List.zip sx.cells ws1)), (5, .pce (famS rVal 51 hn ws1 (List.map (nLst Val).sub sx.cells))), (7, .rd rInt vb4 b.args), (105, .own rVal 51 uq3x8_1 y60), (153, .blk bq3x12_1 [(.int .i64 (b.b)), (.int .i64 (0)), uq3x8_1, (.int .i64 (b.a))])]) ∧ i62 = (k61 : Int) ∧ eachI (vm_call_b7 sx) (vm_call_k8 sx b a) i62 (b.args.drop k61) y60 = some r) (fun ⟨k61, i62, y60⟩ => b.args.length - k61) ⟨0, 0, (List.replicate xq3x5_1.regs.toNat (⟨0, 0⟩ : Val))⟩ ⟨rfl, trivial⟩ ?_ ?_))))))))))))))
   ·
    exact ⟨h.cn _, rfl, hs⟩
   ·
    rintro ⟨k61, i62, y60⟩ w junk ⟨h, hik, hs⟩
    refine wc_seq (wc_region ?_)
    refine wl_ok (r_lss rfl rfl) (wl_nil (then_normal ?_))
    refine wc_seq (wc_if rfl (fun e66 => ?_) (fun e66 => ?_))
    ·
     refine wc_skip (then_normal ?_)
     obtain ⟨x63, e67a, e67b⟩ := drop_lt (hik ▸ e66)
     rw [e67b, eachI_cons] at hs
     generalize hnx65 : eachI (vm_call_b7 sx) (vm_call_k8 sx b a) (i62 + 1) (b.args.drop (k61 + 1)) = nx65 at hs
     have e67r := nat_rng ((h.rdS 7 rfl)).len_le hik e66
     refine wc_seq (wc_block (wc_seq (wc_region (wl_ok (r_move (v := (.int .i64 (i62))) rfl) ?_))))
     obtain ⟨b69, o70, cs71, h, r72, i68⟩ := h.ixR 7 335 rfl SliceOf27 rfl (nat_nn hik) (get_nat hik e67a)
     obtain rfl := r72
     refine wl_ok (i68 _ _ _ _ _ _ _ _ _ rfl rfl) (wl_ok (r_ldP (k := 0) h 335 rfl One3 rfl rfl) (wl_ok (r_assign (v := (.int .i64 (i62))) rfl) (wl_ok (r_assign (v := (.int .i64 (x63))) rfl) (wl_nil (then_normal (wc_tail 20 mixed (by kernel_rfl) h fun w h => wk_ok (r_fieldAddr Fld49x2 rfl) (wk_ok (r_ldB h 153 rfl One47 rfl rfl) (wk_ok (r_move (v := (.int .i64 (i62))) rfl) (wk_ok (r_move (v := (.pointer (some ⟨sb, 0, none⟩))) rfl) (wk_ok (r_nilCheck rfl) (wk_ok (r_fieldAddr Fld26x0 rfl) (wk_ok (r_ldB h 1 rfl One23 rfl rfl) (wk_ok (r_move (v := (.pointer (some ⟨sb, 0, none⟩))) rfl) (wk_ok (r_nilCheck rfl) (wk_ok (r_fieldAddr Fld26x0 rfl) (wk_ok (r_ldB h 1 rfl One23 rfl rfl) (wk_ok (r_lenZ (N := nFrame) SliceOf23 rfl (h.ownS 2 rfl) (h.dnLen 3 rfl)) ?_)))))))))))))))))
     obtain ⟨a73, hs⟩ := o_grd hs
     refine wk_ok (r_sub rfl rfl a73) ?_
     obtain ⟨x74, e75, hs⟩ := o_bind hs
     obtain ⟨u79, e80, h⟩ := h.dnOpenL 3 336 x74.regs rfl rfl (by decide) (o_idx e75).2 rfl
     obtain ⟨b77, q78, i76⟩ := h.ixO 2 rfl SliceOf23 rfl (o_idx e75).1 (zip_at (o_idx e75).2 e80)
     refine wk_ok (i76 _ _ _ _ _ _ _ _ _ rfl rfl) (wk_ok (r_fieldAddr Fld49x2 rfl) ?_)
     obtain ⟨cs81, m82, r83⟩ := h.elO 2 rfl q78 (zip_at (o_idx e75).2 e80)
     obtain ⟨rfl, -⟩ := r83
     refine wk_ok (r_ldA (k := 2) m82 One47 rfl rfl) (wk_ok (r_move (v := (.int .i64 (x63))) rfl) ?_)
     obtain ⟨x84, e85, hs⟩ := o_bind hs
     obtain ⟨b87, q88, i86⟩ := h.ixO 336 rfl SliceOf47 rfl (o_idx e85).1 (o_idx e85).2
     refine wk_ok (i86 _ _ _ _ _ _ _ _ _ rfl rfl) ?_
     obtain ⟨cs89, m90, r91⟩ := h.elO 336 rfl q88 (o_idx e85).2
     obtain rfl := r91
     refine wk_ok (r_ldAN (k := 0) (vs := [(.int .i64 (x84.kind)), (.int .i64 (x84.n))]) m90 Many51 rfl rfl rfl (Nat.le_of_ble_eq_true rfl)) ?_
     obtain ⟨x92, e93, hs⟩ := o_bind hs
     obtain ⟨b95, q96, i94⟩ := h.ixO 105 rfl SliceOf47 rfl (o_idx e93).1 (o_idx e93).2
     refine wk_ok (i94 _ _ _ _ _ _ _ _ _ rfl rfl) (wk_go (w_stON (a' := x84) (vs := [(.int .i64 (x84.kind)), (.int .i64 (x84.n))]) h 105 rfl q96 rfl (o_idx e93).2 Many51 rfl rfl rfl rfl rfl fun w h k97 => wl_nil (inBlock_normal (then_normal (wc_region (wl_ok (r_add rfl rfl e67r) (wl_ok (r_move (v := (.int .i64 ((i62 + 1)))) rfl) (wl_nil ?_))))))))
     replace h := h.dnClose0 3 336 rfl rfl (by decide) (o_idx e75).2 e80 rfl
     refine then_loop ?_
     subst hnx65
     exact lend ⟨k61 + 1, i62 + 1, (y60.set (i62).toNat x84)⟩ ⟨h.cn _, by omega, hs⟩ (by have := of_decide_eq_true e66; dsimp only; omega)
    ·
     rw [drop_ge (hik ▸ e66), eachI_nil] at hs
     refine wc_exit (then_exit (then_exit (inBlock_eq (then_normal (wc_seq (wck_held (L := (fun b => ob vs0 b ∨ b = sb)) mixed h fun w h => whk_ok 0 (Keep.refl _ _) rfl want_none (by kernel_rfl) (by kernel_rfl) (by kernel_rfl) (fun w hk => r_move (v := (.pointer (some ⟨sb, 0, none⟩))) rfl) (whk_ok 1 (Keep.refl _ _) rfl want_none (by kernel_rfl) (by kernel_rfl) (by kernel_rfl) (fun w hk => r_move (v := (.pointer (some ⟨sb, 0, none⟩))) rfl) (whk_ok 2 (Keep.refl _ _) rfl want_none (by kernel_rfl) (by kernel_rfl) (by kernel_rfl) (fun w hk => r_nilCheck rfl) (whk_ok 3 (Keep.refl _ _) rfl want_none (by kernel_rfl) (by kernel_rfl) (by kernel_rfl) (fun w hk => r_fieldAddr Fld26x0 rfl) (whk_ok 5 (Keep.refl _ _) rfl want_none (by kernel_rfl) (by kernel_rfl) (by kernel_rfl) (fun w hk => have h := h.loseC2 2 1 (by decide) rfl rfl hk; r_ldBN (vs := [(.int .i64 (b.b)), (.int .i64 (0)), uq3x8_1, (.int .i64 (b.a))]) h 153 rfl Many49 rfl rfl rfl) ?_))))))))))
     obtain ⟨aq105x7_1, hs⟩ := o_grd hs
     obtain ⟨ws106, ws106e⟩ : ∃ x, x = w := ⟨_, rfl⟩
     have hg107 : Keep (fun b => ob vs0 b ∨ b = sb) ws106 w := ws106e ▸ Keep.refl (fun b => ob vs0 b ∨ b = sb) w
     refine whk_at ws106e.symm (whk_eff2 4 6 (by kernel_rfl) rfl want_none rfl want_none ?_ ?_)
     ·
      refine wl_ok (r_ldB h 1 rfl One23 rfl rfl) (wl_nil (whk_back hg107 (whk_eff 6 (by kernel_rfl) rfl want_none ?_)))
      have uq105x6_1o : (Value.oneCell' uq3x8_1) = true := (h.ownAt 105 rfl).one
      refine w_bsG (R := nFrame.raw) (vs := [(.agg #[(.int .i64 (b.b)), (.int .i64 (0)), uq3x8_1, (.int .i64 (b.a))])]) (xs := List.zip [(⟨b.b, 0, y60, b.a⟩ : LX.Frame)] [uq3x8_1]) h 409 ElemOf23 rfl rfl rfl ⟨⟨rfl, uq105x6_1o⟩, trivial⟩ rfl fun w uq105x6_1 h uq105x6_1k uq105x6_1f => ?_
      have uq105x6_1q : ∀ b, ob uq105x6_1 b → ws106.heap.size ≤ b := fun b hb => Nat.le_trans hg107.size (uq105x6_1f b hb)
      replace hg107 := hg107.grow uq105x6_1k
      replace h := h.famNewL (N := nFrame) 105 (⟨b.b, 0, y60, b.a⟩ : LX.Frame) rfl rfl
      refine wl_nil (whk_back hg107 (whk_eff 7 (by kernel_rfl) rfl want_none ?_))
      have zq105x7_3 := h.dnLen 3 rfl
      have zq105x7_3b := h.dnLen 105 rfl
      have uq105x7_2z := hg107.size
      refine w_appGN (R := nFrame.raw) (m := List.zip [(⟨b.b, 0, y60, b.a⟩ : LX.Frame)] [uq3x8_1]) h 2 rfl (h.ownS 409 rfl) ElemOf23 rfl rfl rfl (by rw [zip_len zq105x7_3, zip_len zq105x7_3b]; exact aq105x7_1.1) (by rw [zip_len zq105x7_3, zip_len zq105x7_3b]; exact aq105x7_1.2) fun w uq105x7_2 h uq105x7_2k uq105x7_2n => ?_
      have uq105x7_2q : ∀ b, ob uq105x7_2 b → b < ws106.heap.size → ob vs0 b := fun b hb hl => uq105x7_2n b hb (Nat.lt_of_lt_of_le hl (hg107).size)
      replace hg107 := Keep.step hg107 uq105x7_2k (fun _ hx _ => .inl (hx))
      replace h := (h.famJoin 3 105 rfl rfl (by decide)).dropC 409
      rw [zip_app zq105x7_3, ← List.map_append] at h
      obtain ⟨usq105x7_4, usq105x7_4e⟩ : ∃ z, z = ws0 ++ [uq3x8_1] := ⟨_, rfl⟩
      rw [← usq105x7_4e] at h
      refine wl_nil (whk_back hg107 (whk_ok 8 hg107 rfl want_none (by kernel_rfl) (by kernel_rfl) (by kernel_rfl) (fun w hk => r_nilCheck rfl) (whk_ok 9 hg107 rfl want_none (by kernel_rfl) (by kernel_rfl) (by kernel_rfl) (fun w hk => r_fieldAddr Fld26x0 rfl) (whk_eff 10 (by kernel_rfl) rfl want_none (w_st1G h 1 [uq105x7_2, vs1, (.int .i64 (sx.status)), (.int .i64 (sx.wher))] rfl One23 rfl rfl rfl rfl (h.ownAt 2 rfl).one fun w h kq105x10_1 => ?_)))))
      replace hg107 := Keep.step hg107 kq105x10_1 (fun _ hx _ => .inr (hx))
      refine wl_nil (whk_back hg107 (whk_done (by kernel_rfl) (then_normal (wc_seq (wc_region (wl_ok (r_assign (v := (.bool (true))) rfl) (wl_nil (then_normal (wc_ret (fin1 (v := (.bool (true))) Tryz.results90 rfl ?_))))))))))
      replace h := h.pair 1 2 (by decide)
      replace h := h.pair 1 3 (by decide)
      replace h := h.pair 1 4 (by decide)
      replace h := h.pair 1 5 (by decide)
      obtain rfl := Option.some.inj hs
      subst hK0
      obtain ⟨o1, o2, o3⟩ := h.outS 1 (C := (.two (.two (.two (.two (.blk sb [uq105x7_2, vs1, (.int .i64 (sx.status)), (.int .i64 (sx.wher))]) (.own nFrame.raw 49 uq105x7_2 (List.zip (sx.frames ++ [(⟨b.b, 0, y60, b.a⟩ : LX.Frame)]) usq105x7_4))) (.pce (famS rVal 51 hn usq105x7_4 (List.map nFrame.sub (sx.frames ++ [(⟨b.b, 0, y60, b.a⟩ : LX.Frame)]))))) (.own (nLst Val).raw 47 vs1 (List.zip sx.cells ws1))) (.pce (famS rVal 51 hn ws1 (List.map (nLst Val).sub sx.cells))) : Chunk)) rfl ⟨⟨⟨⟨trivial, trivial⟩, trivial⟩, trivial⟩, trivial⟩
      exact ⟨o2, uq105x7_2, vs1, usq105x7_4, ws1, rfl, o1, o3⟩
     ·
      have uq105x6_1o : (Value.oneCell' uq3x8_1) = true := (h.ownAt 105 rfl).one
      refine w_bsG (R := nFrame.raw) (vs := [(.agg #[(.int .i64 (b.b)), (.int .i64 (0)), uq3x8_1, (.int .i64 (b.a))])]) (xs := List.zip [(⟨b.b, 0, y60, b.a⟩ : LX.Frame)] [uq3x8_1]) h 409 ElemOf23 rfl rfl rfl ⟨⟨rfl, uq105x6_1o⟩, trivial⟩ rfl fun w uq105x6_1 h uq105x6_1k uq105x6_1f => ?_
      have uq105x6_1q : ∀ b, ob uq105x6_1 b → ws106.heap.size ≤ b := fun b hb => Nat.le_trans hg107.size (uq105x6_1f b hb)
      replace hg107 := hg107.grow uq105x6_1k
      replace h := h.famNewL (N := nFrame) 105 (⟨b.b, 0, y60, b.a⟩ : LX.Frame) rfl rfl
      refine wl_nil (whk_back hg107 (whk_eff 4 (by kernel_rfl) rfl want_none (wl_ok (r_ldB h 1 rfl One23 rfl rfl) (wl_nil (whk_back hg107 (whk_eff 7 (by kernel_rfl) rfl want_none ?_))))))
      have zq105x7_3 := h.dnLen 3 rfl
      have zq105x7_3b := h.dnLen 105 rfl
      have uq105x7_2z := hg107.size
      refine w_appGN (R := nFrame.raw) (m := List.zip [(⟨b.b, 0, y60, b.a⟩ : LX.Frame)] [uq3x8_1]) h 2 rfl (h.ownS 409 rfl) ElemOf23 rfl rfl rfl (by rw [zip_len zq105x7_3, zip_len zq105x7_3b]; exact aq105x7_1.1) (by rw [zip_len zq105x7_3, zip_len zq105x7_3b]; exact aq105x7_1.2) fun w uq105x7_2 h uq105x7_2k uq105x7_2n => ?_
      have uq105x7_2q : ∀ b, ob uq105x7_2 b → b < ws106.heap.size → ob vs0 b := fun b hb hl => uq105x7_2n b hb (Nat.lt_of_lt_of_le hl (hg107).size)
      replace hg107 := Keep.step hg107 uq105x7_2k (fun _ hx _ => .inl (hx))
      replace h := (h.famJoin 3 105 rfl rfl (by decide)).dropC 409
      rw [zip_app zq105x7_3, ← List.map_append] at h
      obtain ⟨usq105x7_4, usq105x7_4e⟩ : ∃ z, z = ws0 ++ [uq3x8_1] := ⟨_, rfl⟩
      rw [← usq105x7_4e] at h
      refine wl_nil (whk_back hg107 (whk_ok 8 hg107 rfl want_none (by kernel_rfl) (by kernel_rfl) (by kernel_rfl) (fun w hk => r_nilCheck rfl) (whk_ok 9 hg107 rfl want_none (by kernel_rfl) (by kernel_rfl) (by kernel_rfl) (fun w hk => r_fieldAddr Fld26x0 rfl) (whk_eff 10 (by kernel_rfl) rfl want_none (w_st1G h 1 [uq105x7_2, vs1, (.int .i64 (sx.status)), (.int .i64 (sx.wher))] rfl One23 rfl rfl rfl rfl (h.ownAt 2 rfl).one fun w h kq105x10_1 => ?_)))))
      replace hg107 := Keep.step hg107 kq105x10_1 (fun _ hx _ => .inr (hx))
      refine wl_nil (whk_back hg107 (whk_done (by kernel_rfl) (then_normal (wc_seq (wc_region (wl_ok (r_assign (v := (.bool (true))) rfl) (wl_nil (then_normal (wc_ret (fin1 (v := (.bool (true))) Tryz.results90 rfl ?_))))))))))
      replace h := h.pair 1 2 (by decide)
      replace h := h.pair 1 3 (by decide)
      replace h := h.pair 1 4 (by decide)
      replace h := h.pair 1 5 (by decide)
      obtain rfl := Option.some.inj hs
      subst hK0
      obtain ⟨o1, o2, o3⟩ := h.outS 1 (C := (.two (.two (.two (.two (.blk sb [uq105x7_2, vs1, (.int .i64 (sx.status)), (.int .i64 (sx.wher))]) (.own nFrame.raw 49 uq105x7_2 (List.zip (sx.frames ++ [(⟨b.b, 0, y60, b.a⟩ : LX.Frame)]) usq105x7_4))) (.pce (famS rVal 51 hn usq105x7_4 (List.map nFrame.sub (sx.frames ++ [(⟨b.b, 0, y60, b.a⟩ : LX.Frame)]))))) (.own (nLst Val).raw 47 vs1 (List.zip sx.cells ws1))) (.pce (famS rVal 51 hn ws1 (List.map (nLst Val).sub sx.cells))) : Chunk)) rfl ⟨⟨⟨⟨trivial, trivial⟩, trivial⟩, trivial⟩, trivial⟩
      exact ⟨o2, uq105x7_2, vs1, usq105x7_4, ws1, rfl, o1, o3⟩
def vm_back (sx : LX.State) (a : Val) (b : Int) : Option LX.State :=
  grd (I64 ((sx.frames.length : Int) - 1)) ((sub? sx.frames 0 ((sx.frames.length : Int) - 1)).bind fun x3 => bif decide ((((sx.frames.take (((sx.frames.length : Int) - 1)).toNat).length : Int) : Int) = 0) then some (⟨(sx.frames.take (((sx.frames.length : Int) - 1)).toNat), sx.cells, 1, sx.wher⟩ : LX.State) else grd (I64 (((sx.frames.take (((sx.frames.length : Int) - 1)).toNat).length : Int) - 1)) ((idx (sx.frames.take (((sx.frames.length : Int) - 1)).toNat) (((sx.frames.take (((sx.frames.length : Int) - 1)).toNat).length : Int) - 1)).bind fun x11 => (idx x11.regs b).bind fun x21 => some (⟨((sx.frames.take (((sx.frames.length : Int) - 1)).toNat).set ((((sx.frames.take (((sx.frames.length : Int) - 1)).toNat).length : Int) - 1)).toNat ({ x11 with regs := (x11.regs.set (b).toNat a) })), sx.cells, sx.status, sx.wher⟩ : LX.State)))
theorem vm_back_c (w0 : World) (M : BS) (hM : ∀ b, M b → b < w0.heap.size) (sb : Nat) (sx : LX.State) (vs0 vs1 : Value) (ws0 ws1 : List Value) (hC : Chunk.holds w0 M (Chunk.own' (.two (.two (.two (.two (.blk sb [vs0, vs1, (.int .i64 (sx.status)), (.int .i64 (sx.wher))]) (.own nFrame.raw 49 vs0 (List.zip sx.frames ws0))) (.pce (famS rVal 51 hn ws0 (List.map nFrame.sub sx.frames)))) (.own (nLst Val).raw 47 vs1 (List.zip sx.cells ws1))) (.pce (famS rVal 51 hn ws1 (List.map (nLst Val).sub sx.cells))) : Chunk)) (.two (.two (.two (.two (.blk sb [vs0, vs1, (.int .i64 (sx.status)), (.int .i64 (sx.wher))]) (.own nFrame.raw 49 vs0 (List.zip sx.frames ws0))) (.pce (famS rVal 51 hn ws0 (List.map nFrame.sub sx.frames)))) (.own (nLst Val).raw 47 vs1 (List.zip sx.cells ws1))) (.pce (famS rVal 51 hn ws1 (List.map (nLst Val).sub sx.cells))) : Chunk)) (hap : ∀ b, Chunk.own' (.two (.two (.two (.two (.blk sb [vs0, vs1, (.int .i64 (sx.status)), (.int .i64 (sx.wher))]) (.own nFrame.raw 49 vs0 (List.zip sx.frames ws0))) (.pce (famS rVal 51 hn ws0 (List.map nFrame.sub sx.frames)))) (.own (nLst Val).raw 47 vs1 (List.zip sx.cells ws1))) (.pce (famS rVal 51 hn ws1 (List.map (nLst Val).sub sx.cells))) : Chunk) b → ¬ M b) (a : Val) (b : Int) (r : LX.State) (hs : vm_back sx a b = some r) :
    Calls Tryz.prog 91 #[(.pointer (some ⟨sb, 0, none⟩)), (.agg #[(.int .i64 (a.kind)), (.int .i64 (a.n))]), (.int .i64 (b))] w0 (fun e w' => Keep (Chunk.own' (.two (.two (.two (.two (.blk sb [vs0, vs1, (.int .i64 (sx.status)), (.int .i64 (sx.wher))]) (.own nFrame.raw 49 vs0 (List.zip sx.frames ws0))) (.pce (famS rVal 51 hn ws0 (List.map nFrame.sub sx.frames)))) (.own (nLst Val).raw 47 vs1 (List.zip sx.cells ws1))) (.pce (famS rVal 51 hn ws1 (List.map (nLst Val).sub sx.cells))) : Chunk)) w0 w' ∧ ∃ us0, ∃ us1, ∃ wt0, ∃ wt1, e = .returned (.tuple #[]) ∧ Chunk.holds w' M (Chunk.own' (.two (.two (.two (.two (.blk sb [us0, us1, .int .i64 r.status, .int .i64 r.wher]) (.own nFrame.raw 49 us0 (List.zip r.frames wt0))) (.pce (famS rVal 51 hn wt0 (List.map nFrame.sub r.frames)))) (.own (nLst Val).raw 47 us1 (List.zip r.cells wt1))) (.pce (famS rVal 51 hn wt1 (List.map (nLst Val).sub r.cells))) : Chunk)) (.two (.two (.two (.two (.blk sb [us0, us1, .int .i64 r.status, .int .i64 r.wher]) (.own nFrame.raw 49 us0 (List.zip r.frames wt0))) (.pce (famS rVal 51 hn wt0 (List.map nFrame.sub r.frames)))) (.own (nLst Val).raw 47 us1 (List.zip r.cells wt1))) (.pce (famS rVal 51 hn wt1 (List.map (nLst Val).sub r.cells))) : Chunk) ∧ (∀ b, Chunk.own' (.two (.two (.two (.two (.blk sb [us0, us1, .int .i64 r.status, .int .i64 r.wher]) (.own nFrame.raw 49 us0 (List.zip r.frames wt0))) (.pce (famS rVal 51 hn wt0 (List.map nFrame.sub r.frames)))) (.own (nLst Val).raw 47 us1 (List.zip r.cells wt1))) (.pce (famS rVal 51 hn wt1 (List.map (nLst Val).sub r.cells))) : Chunk) b → b < w0.heap.size → Chunk.own' (.two (.two (.two (.two (.blk sb [vs0, vs1, (.int .i64 (sx.status)), (.int .i64 (sx.wher))]) (.own nFrame.raw 49 vs0 (List.zip sx.frames ws0))) (.pce (famS rVal 51 hn ws0 (List.map nFrame.sub sx.frames)))) (.own (nLst Val).raw 47 vs1 (List.zip sx.cells ws1))) (.pce (famS rVal 51 hn ws1 (List.map (nLst Val).sub sx.cells))) : Chunk) b)) := by
 refine calls_start (args := [(.pointer (some ⟨sb, 0, none⟩)), (.agg #[(.int .i64 (a.kind)), (.int .i64 (a.n))]), (.int .i64 (b))]) Tryz.func91 rfl Tryz.ntmps91 (Nat.le_of_ble_eq_true rfl) ?_
 have h := SH.init1 hM hC hap
 generalize hK0 : (.two (.two (.two (.two (.blk sb [vs0, vs1, (.int .i64 (sx.status)), (.int .i64 (sx.wher))]) (.own nFrame.raw 49 vs0 (List.zip sx.frames ws0))) (.pce (famS rVal 51 hn ws0 (List.map nFrame.sub sx.frames)))) (.own (nLst Val).raw 47 vs1 (List.zip sx.cells ws1))) (.pce (famS rVal 51 hn ws1 (List.map (nLst Val).sub sx.cells))) : Chunk).own' = K0 at h
 replace h := h.unpair 1 5 (by decide) rfl rfl
 replace h := h.unpair 1 4 (by decide) rfl rfl
 replace h := h.unpair 1 3 (by decide) rfl rfl
 replace h := h.unpair 1 2 (by decide) rfl rfl
 refine wc_seq (wc_region (w_box (cs := [(.int .i64 (a.kind)), (.int .i64 (a.n))]) h 6 rfl rfl fun w b1 h => wl_nil (then_normal (wc_seq (wc_tail 14 mixed (by kernel_rfl) h fun w h => wk_ok (r_move (v := (.pointer (some ⟨sb, 0, none⟩))) rfl) (wk_ok (r_move (v := (.pointer (some ⟨sb, 0, none⟩))) rfl) (wk_ok (r_nilCheck rfl) (wk_ok (r_fieldAddr Fld26x0 rfl) (wk_ok (r_ldB h 1 rfl One23 rfl rfl) (wk_ok (r_move (v := (.pointer (some ⟨sb, 0, none⟩))) rfl) (wk_ok (r_nilCheck rfl) (wk_ok (r_fieldAddr Fld26x0 rfl) (wk_ok (r_ldB h 1 rfl One23 rfl rfl) (wk_ok (r_lenZ (N := nFrame) SliceOf23 rfl (h.ownS 2 rfl) (h.dnLen 3 rfl)) ?_))))))))))))))
 obtain ⟨a2, hs⟩ := o_grd hs
 refine wk_ok (r_sub rfl rfl a2) ?_
 obtain ⟨x3, e4, hs⟩ := o_bind hs
 obtain ⟨e7, e7a, e7b, e7c⟩ := o_sub e4
 have us8z := h.dnLen 3 rfl
 obtain ⟨u5, h, i6⟩ := h.cutO 2 rfl SliceOf23 rfl e7b (by rw [zip_len us8z]; exact e7c)
 rw [zip_take'] at h
 rw [zip_len us8z] at i6
 replace h := h.famTake 3 (((sx.frames.length : Int) - 1)).toNat rfl
 generalize List.take (((sx.frames.length : Int) - 1)).toNat ws0 = us8 at h
 refine wk_ok (i6 _ _ _ _ _ _ _ _ _ _ rfl (.inl ⟨rfl, rfl⟩) (.inr (congrArg some rfl))) (wk_ok (r_nilCheck rfl) (wk_ok (r_fieldAddr Fld26x0 rfl) (wk_go (w_st1 h 1 [u5, vs1, (.int .i64 (sx.status)), (.int .i64 (sx.wher))] rfl One23 rfl rfl rfl rfl (h.ownAt 2 rfl).one fun w h => wl_nil (then_normal (wc_seq (wc_seq (wc_region (wl_ok (r_move (v := (.pointer (some ⟨sb, 0, none⟩))) rfl) (wl_ok (r_nilCheck rfl) (wl_ok (r_fieldAddr Fld26x0 rfl) (wl_ok (r_ldB h 1 rfl One23 rfl rfl) (wl_ok (r_lenZ (N := nFrame) SliceOf23 rfl (h.ownS 2 rfl) (h.dnLen 3 rfl)) (wl_ok (r_eql rfl rfl) (wl_nil (then_normal (wc_ifb hs rfl (fun c9 hs => ?_) (fun c9 hs => ?_))))))))))))))))))
 ·
  refine wc_seq (wc_region (wl_ok (r_move (v := (.pointer (some ⟨sb, 0, none⟩))) rfl) (wl_ok (r_nilCheck rfl) (wl_ok (r_fieldAddr Fld26x2 rfl) (w_st1 h 1 [u5, vs1, (.int .i64 (1)), (.int .i64 (sx.wher))] rfl One3 rfl rfl rfl rfl rfl fun w h => wl_nil (then_normal (wc_ret (then_ret (fin0 Tryz.results91 ?_)))))))))
  replace h := h.pair 1 2 (by decide)
  replace h := h.pair 1 3 (by decide)
  replace h := h.pair 1 4 (by decide)
  replace h := h.pair 1 5 (by decide)
  obtain rfl := Option.some.inj hs
  subst hK0
  obtain ⟨o1, o2, o3⟩ := h.outS 1 (C := (.two (.two (.two (.two (.blk sb [u5, vs1, (.int .i64 (1)), (.int .i64 (sx.wher))]) (.own nFrame.raw 49 u5 (List.zip (sx.frames.take (((sx.frames.length : Int) - 1)).toNat) us8))) (.pce (famS rVal 51 hn us8 (List.map nFrame.sub (sx.frames.take (((sx.frames.length : Int) - 1)).toNat))))) (.own (nLst Val).raw 47 vs1 (List.zip sx.cells ws1))) (.pce (famS rVal 51 hn ws1 (List.map (nLst Val).sub sx.cells))) : Chunk)) rfl ⟨⟨⟨⟨trivial, trivial⟩, trivial⟩, trivial⟩, trivial⟩
  exact ⟨o2, u5, vs1, us8, ws1, rfl, o1, o3⟩
 ·
  refine wc_skip (then_normal (wc_tail 16 mixed (by kernel_rfl) h fun w h => wk_ok (r_move (v := (.pointer (some ⟨sb, 0, none⟩))) rfl) (wk_ok (r_nilCheck rfl) (wk_ok (r_fieldAddr Fld26x0 rfl) (wk_ok (r_ldB h 1 rfl One23 rfl rfl) (wk_ok (r_move (v := (.pointer (some ⟨sb, 0, none⟩))) rfl) (wk_ok (r_nilCheck rfl) (wk_ok (r_fieldAddr Fld26x0 rfl) (wk_ok (r_ldB h 1 rfl One23 rfl rfl) (wk_ok (r_lenZ (N := nFrame) SliceOf23 rfl (h.ownS 2 rfl) (h.dnLen 3 rfl)) ?_))))))))))
  obtain ⟨a10, hs⟩ := o_grd hs
  refine wk_ok (r_sub rfl rfl a10) ?_
  obtain ⟨x11, e12, hs⟩ := o_bind hs
  obtain ⟨u16, e17, h⟩ := h.dnOpenL 3 8 x11.regs rfl rfl (by decide) (o_idx e12).2 rfl
  obtain ⟨b14, q15, i13⟩ := h.ixO 2 rfl SliceOf23 rfl (o_idx e12).1 (zip_at (o_idx e12).2 e17)
  refine wk_ok (i13 _ _ _ _ _ _ _ _ _ rfl rfl) (wk_ok (r_fieldAddr Fld49x2 rfl) ?_)
  obtain ⟨cs18, m19, r20⟩ := h.elO 2 rfl q15 (zip_at (o_idx e12).2 e17)
  obtain ⟨rfl, -⟩ := r20
  refine wk_ok (r_ldA (k := 2) m19 One47 rfl rfl) (wk_ok (r_move (v := (.int .i64 (b))) rfl) (wk_ok (r_ldBN (vs := [(.int .i64 (a.kind)), (.int .i64 (a.n))]) h 6 rfl Many51 rfl rfl rfl) ?_))
  obtain ⟨x21, e22, hs⟩ := o_bind hs
  obtain ⟨b24, q25, i23⟩ := h.ixO 8 rfl SliceOf47 rfl (o_idx e22).1 (o_idx e22).2
  refine wk_ok (i23 _ _ _ _ _ _ _ _ _ rfl rfl) (wk_go (w_stON (a' := a) (vs := [(.int .i64 (a.kind)), (.int .i64 (a.n))]) h 8 rfl q25 rfl (o_idx e22).2 Many51 rfl rfl rfl rfl rfl fun w h k26 => wl_nil (fin0n Tryz.results91 ?_)))
  replace h := h.dnClose 2 3 8 ({ x11 with regs := (x11.regs.set (b).toNat a) }) rfl rfl rfl (by decide) (by decide) (by decide) (o_idx e12).2 e17 rfl
  replace h := h.pair 1 2 (by decide)
  replace h := h.pair 1 3 (by decide)
  replace h := h.pair 1 4 (by decide)
  replace h := h.pair 1 5 (by decide)
  obtain rfl := Option.some.inj hs
  subst hK0
  obtain ⟨o1, o2, o3⟩ := h.outS 1 (C := (.two (.two (.two (.two (.blk sb [u5, vs1, (.int .i64 (sx.status)), (.int .i64 (sx.wher))]) (.own nFrame.raw 49 u5 (List.zip ((sx.frames.take (((sx.frames.length : Int) - 1)).toNat).set ((((sx.frames.take (((sx.frames.length : Int) - 1)).toNat).length : Int) - 1)).toNat ({ x11 with regs := (x11.regs.set (b).toNat a) })) us8))) (.pce (famS rVal 51 hn us8 (List.map nFrame.sub ((sx.frames.take (((sx.frames.length : Int) - 1)).toNat).set ((((sx.frames.take (((sx.frames.length : Int) - 1)).toNat).length : Int) - 1)).toNat ({ x11 with regs := (x11.regs.set (b).toNat a) })))))) (.own (nLst Val).raw 47 vs1 (List.zip sx.cells ws1))) (.pce (famS rVal 51 hn ws1 (List.map (nLst Val).sub sx.cells))) : Chunk)) rfl ⟨⟨⟨⟨trivial, trivial⟩, trivial⟩, trivial⟩, trivial⟩
  exact ⟨o2, u5, vs1, us8, ws1, rfl, o1, o3⟩
def vm_step_j3 (y31 : Bool) (y34 : List LX.Frame) (y37 : List (List Val)) (y38 : Int) (y39 : Int) : Option (VOut × Bool × LX.State) :=
  some ((⟨false, 0, y31⟩ : VOut), true, (⟨y34, y37, y38, y39⟩ : LX.State))
def vm_step_j4 (sx : LX.State) (x63 : Bool) (y64 : List LX.Frame) : Option (VOut × Bool × LX.State) :=
  some ((⟨false, 0, false⟩ : VOut), x63, (⟨y64, sx.cells, sx.status, sx.wher⟩ : LX.State))
def vm_step_j5 (N : Nat) (sx : LX.State) (x3 : LX.Frame) (xq10x5_1 : Proc) (xq10x12_1 : Ins) (a : List Proc) (x73 : Bool) : Option (VOut × Bool × LX.State) :=
  bif x73 then (vm_field (⟨(sx.frames.set (((sx.frames.length : Int) - 1)).toNat ({ x3 with at_ := (min (x3.at_ + 1) ((xq10x5_1.code.length : Int) - 1)) })), sx.cells, sx.status, sx.wher⟩ : LX.State) xq10x12_1 ((sx.frames.length : Int) - 1) ({ x3 with at_ := (min (x3.at_ + 1) ((xq10x5_1.code.length : Int) - 1)) })).bind fun yq85x4_2 => some ((⟨false, 0, false⟩ : VOut), yq85x4_2.1, yq85x4_2.2) else bif decide ((xq10x12_1.op : Int) = 5) then (vm_fresh N (⟨(sx.frames.set (((sx.frames.length : Int) - 1)).toNat ({ x3 with at_ := (min (x3.at_ + 1) ((xq10x5_1.code.length : Int) - 1)) })), sx.cells, sx.status, sx.wher⟩ : LX.State) xq10x12_1).bind fun yq99x3_2 => some ((⟨false, 0, false⟩ : VOut), yq99x3_2.1, yq99x3_2.2) else bif decide ((xq10x12_1.op : Int) = 7) then (vm_call (⟨(sx.frames.set (((sx.frames.length : Int) - 1)).toNat ({ x3 with at_ := (min (x3.at_ + 1) ((xq10x5_1.code.length : Int) - 1)) })), sx.cells, sx.status, sx.wher⟩ : LX.State) a xq10x12_1).bind fun yq113x4_2 => some ((⟨false, 0, false⟩ : VOut), yq113x4_2.1, yq113x4_2.2) else bif decide ((xq10x12_1.op : Int) = 8) then (idx x3.regs xq10x12_1.a).bind fun x117 => (vm_back (⟨(sx.frames.set (((sx.frames.length : Int) - 1)).toNat ({ x3 with at_ := (min (x3.at_ + 1) ((xq10x5_1.code.length : Int) - 1)) })), sx.cells, sx.status, sx.wher⟩ : LX.State) x117 x3.to_).bind fun y129 => vm_step_j3 false y129.frames y129.cells y129.status y129.wher else bif decide ((xq10x12_1.op : Int) = 9) then (idx x3.regs xq10x12_1.a).bind fun xq142x3_1 => some ((⟨true, xq142x3_1.n, false⟩ : VOut), decide ((xq142x3_1.kind : Int) = 1), (⟨(sx.frames.set (((sx.frames.length : Int) - 1)).toNat ({ x3 with at_ := (min (x3.at_ + 1) ((xq10x5_1.code.length : Int) - 1)) })), sx.cells, sx.status, sx.wher⟩ : LX.State)) else bif decide ((xq10x12_1.op : Int) = 10) then vm_step_j3 true (sx.frames.set (((sx.frames.length : Int) - 1)).toNat ({ x3 with at_ := (min (x3.at_ + 1) ((xq10x5_1.code.length : Int) - 1)) })) sx.cells sx.status sx.wher else bif decide ((xq10x12_1.op : Int) = 11) then (idx x3.regs xq10x12_1.a).bind fun x147 => bif decide ((x147.kind : Int) ≠ 1) then some ((⟨false, 0, false⟩ : VOut), false, (⟨(sx.frames.set (((sx.frames.length : Int) - 1)).toNat ({ x3 with at_ := (min (x3.at_ + 1) ((xq10x5_1.code.length : Int) - 1)) })), sx.cells, sx.status, sx.wher⟩ : LX.State)) else vm_step_j3 true (sx.frames.set (((sx.frames.length : Int) - 1)).toNat ({ x3 with at_ := (min (x3.at_ + 1) ((xq10x5_1.code.length : Int) - 1)) })) sx.cells 3 x147.n else bif decide ((xq10x12_1.op : Int) = 12) then vm_step_j3 false ((sx.frames.set (((sx.frames.length : Int) - 1)).toNat ({ x3 with at_ := (min (x3.at_ + 1) ((xq10x5_1.code.length : Int) - 1)) })).set (((sx.frames.length : Int) - 1)).toNat ({ x3 with at_ := xq10x12_1.b })) sx.cells sx.status sx.wher else bif decide ((xq10x12_1.op : Int) = 13) then (idx x3.regs xq10x12_1.a).bind fun x164 => bif (decide ((x164.kind : Int) = 0) || (decide ((x164.kind : Int) = 1) && decide ((x164.n : Int) = 0))) then vm_step_j3 false ((sx.frames.set (((sx.frames.length : Int) - 1)).toNat ({ x3 with at_ := (min (x3.at_ + 1) ((xq10x5_1.code.length : Int) - 1)) })).set (((sx.frames.length : Int) - 1)).toNat ({ x3 with at_ := xq10x12_1.b })) sx.cells sx.status sx.wher else vm_step_j3 false (sx.frames.set (((sx.frames.length : Int) - 1)).toNat ({ x3 with at_ := (min (x3.at_ + 1) ((xq10x5_1.code.length : Int) - 1)) })) sx.cells sx.status sx.wher else vm_step_j3 false (sx.frames.set (((sx.frames.length : Int) - 1)).toNat ({ x3 with at_ := (min (x3.at_ + 1) ((xq10x5_1.code.length : Int) - 1)) })) sx.cells sx.status sx.wher
def vm_step (N : Nat) (sx : LX.State) (a : List Proc) : Option (VOut × Bool × LX.State) :=
  grd (I64 ((sx.frames.length : Int) - 1)) ((idx sx.frames ((sx.frames.length : Int) - 1)).bind fun x3 => (idx a x3.proc).bind fun xq10x5_1 => (idx xq10x5_1.code x3.at_).bind fun xq10x12_1 => grd (I64 (x3.at_ + 1)) (grd (I64 ((xq10x5_1.code.length : Int) - 1)) (bif decide ((xq10x12_1.op : Int) = 1) then (idx x3.regs xq10x12_1.a).bind fun x41 => vm_step_j3 false ((sx.frames.set (((sx.frames.length : Int) - 1)).toNat ({ x3 with at_ := (min (x3.at_ + 1) ((xq10x5_1.code.length : Int) - 1)) })).set (((sx.frames.length : Int) - 1)).toNat ({ x3 with at_ := (min (x3.at_ + 1) ((xq10x5_1.code.length : Int) - 1)), regs := (x3.regs.set (xq10x12_1.a).toNat (⟨1, xq10x12_1.b⟩ : Val)) })) sx.cells sx.status sx.wher else bif decide ((xq10x12_1.op : Int) = 2) then (idx x3.regs xq10x12_1.b).bind fun x48 => (idx x3.regs xq10x12_1.a).bind fun x56 => vm_step_j3 false ((sx.frames.set (((sx.frames.length : Int) - 1)).toNat ({ x3 with at_ := (min (x3.at_ + 1) ((xq10x5_1.code.length : Int) - 1)) })).set (((sx.frames.length : Int) - 1)).toNat ({ x3 with at_ := (min (x3.at_ + 1) ((xq10x5_1.code.length : Int) - 1)), regs := (x3.regs.set (xq10x12_1.a).toNat x48) })) sx.cells sx.status sx.wher else bif decide ((xq10x12_1.op : Int) = 3) then (idx xq10x12_1.args 0).bind fun xq70x5_1 => (idx x3.regs xq10x12_1.b).bind fun xq70x10_1 => (idx x3.regs xq10x12_1.c).bind fun xq70x15_1 => (vm_op xq70x5_1 xq70x10_1 xq70x15_1).bind fun yq70x17_1 => (idx x3.regs xq10x12_1.a).bind fun xq70x21_1 => vm_step_j4 sx yq70x17_1.2 ((sx.frames.set (((sx.frames.length : Int) - 1)).toNat ({ x3 with at_ := (min (x3.at_ + 1) ((xq10x5_1.code.length : Int) - 1)) })).set (((sx.frames.length : Int) - 1)).toNat ({ x3 with at_ := (min (x3.at_ + 1) ((xq10x5_1.code.length : Int) - 1)), regs := (x3.regs.set (xq10x12_1.a).toNat yq70x17_1.1) })) else bif decide ((xq10x12_1.op : Int) = 4) then vm_step_j5 N sx x3 xq10x5_1 xq10x12_1 a (decide ((xq10x12_1.op : Int) = 4)) else vm_step_j5 N sx x3 xq10x5_1 xq10x12_1 a (decide ((xq10x12_1.op : Int) = 6)))))
end
end Go.Proofs.YtfclkapelkhlpaaGreatDoor
