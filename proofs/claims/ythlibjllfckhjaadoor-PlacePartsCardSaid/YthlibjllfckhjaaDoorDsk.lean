/-
  Functions of the program, each as plain Lean, and that the code does just that.
-/
import Derived.Test.YthlibjllfckhjaaDoorProg
import Derived.Test.YthlibjllfckhjaaDoorLiftC
import Derived.Test.YthlibjllfckhjaaDoorRec
import Derived.Test.YthlibjllfckhjaaDoorDskShelf
set_option linter.unusedSimpArgs false
set_option linter.unusedVariables false
set_option maxRecDepth 10000
namespace Go.Proofs.YthlibjllfckhjaaDoor
open Go Go.Proofs Go.LX
theorem ElemOf107 : ElemOf Tryd.prog 107 35 1 24 := ⟨Tryd.underlying107, elem_of (z := (.slice none 0 0)) (by kernel_rfl) rfl⟩
theorem ElemOf34 : ElemOf Tryd.prog 34 24 6 80 := ⟨Tryd.underlying34, elem_of (z := (.agg #[(.int .i64 (0)), (.int .i64 (0)), (.int .i64 (0)), (.int .i64 (0)), (.slice none 0 0), (.slice none 0 0)])) (by kernel_rfl) rfl⟩
theorem ElemOf35 : ElemOf Tryd.prog 35 5 1 1 := ⟨Tryd.underlying35, elem_of (z := (.int .u8 (0))) (by kernel_rfl) rfl⟩
theorem ElemOf78 : ElemOf Tryd.prog 78 34 1 24 := ⟨Tryd.underlying78, elem_of (z := (.slice none 0 0)) (by kernel_rfl) rfl⟩
theorem Fld37x0 : FieldAt Tryd.prog 37 0 0 := ⟨_, _, 0, Tryd.underlying37, rfl, rfl, by kernel_rfl⟩
theorem Fld37x1 : FieldAt Tryd.prog 37 1 1 := ⟨_, _, 0, Tryd.underlying37, rfl, rfl, by kernel_rfl⟩
theorem fnOk16 : FnOk Tryd.prog 16 := ⟨_, Tryd.func16, by kernel_rfl, rfl⟩
theorem fnOk17 : FnOk Tryd.prog 17 := ⟨_, Tryd.func17, by kernel_rfl, rfl⟩
theorem fnOk18 : FnOk Tryd.prog 18 := ⟨_, Tryd.func18, by kernel_rfl, rfl⟩
theorem fnOk19 : FnOk Tryd.prog 19 := ⟨_, Tryd.func19, by kernel_rfl, rfl⟩
theorem fnOk20 : FnOk Tryd.prog 20 := ⟨_, Tryd.func20, by kernel_rfl, rfl⟩
theorem fnOk21 : FnOk Tryd.prog 21 := ⟨_, Tryd.func21, by kernel_rfl, rfl⟩
theorem fnOk22 : FnOk Tryd.prog 22 := ⟨_, Tryd.func22, by kernel_rfl, rfl⟩
theorem fnOk23 : FnOk Tryd.prog 23 := ⟨_, Tryd.func23, by kernel_rfl, rfl⟩
theorem fnOk24 : FnOk Tryd.prog 24 := ⟨_, Tryd.func24, by kernel_rfl, rfl⟩
theorem fnOk25 : FnOk Tryd.prog 25 := ⟨_, Tryd.func25, by kernel_rfl, rfl⟩
theorem fnOk26 : FnOk Tryd.prog 26 := ⟨_, Tryd.func26, by kernel_rfl, rfl⟩
theorem fnOk27 : FnOk Tryd.prog 27 := ⟨_, Tryd.func27, by kernel_rfl, rfl⟩
theorem fnOk28 : FnOk Tryd.prog 28 := ⟨_, Tryd.func28, by kernel_rfl, rfl⟩
theorem fnOk29 : FnOk Tryd.prog 29 := ⟨_, Tryd.func29, by kernel_rfl, rfl⟩
theorem fnOk30 : FnOk Tryd.prog 30 := ⟨_, Tryd.func30, by kernel_rfl, rfl⟩
theorem fnOk31 : FnOk Tryd.prog 31 := ⟨_, Tryd.func31, by kernel_rfl, rfl⟩
theorem fnOk46 : FnOk Tryd.prog 46 := ⟨_, Tryd.func46, by kernel_rfl, rfl⟩
theorem fnOk47 : FnOk Tryd.prog 47 := ⟨_, Tryd.func47, by kernel_rfl, rfl⟩
theorem fnOk48 : FnOk Tryd.prog 48 := ⟨_, Tryd.func48, by kernel_rfl, rfl⟩
theorem fnOk49 : FnOk Tryd.prog 49 := ⟨_, Tryd.func49, by kernel_rfl, rfl⟩
theorem fnOk50 : FnOk Tryd.prog 50 := ⟨_, Tryd.func50, by kernel_rfl, rfl⟩
theorem fnOk51 : FnOk Tryd.prog 51 := ⟨_, Tryd.func51, by kernel_rfl, rfl⟩
theorem fnOk64 : FnOk Tryd.prog 64 := ⟨_, Tryd.func64, by kernel_rfl, rfl⟩
theorem fnOk71 : FnOk Tryd.prog 71 := ⟨_, Tryd.func71, by kernel_rfl, rfl⟩
theorem fnOk72 : FnOk Tryd.prog 72 := ⟨_, Tryd.func72, by kernel_rfl, rfl⟩
theorem fnOk73 : FnOk Tryd.prog 73 := ⟨_, Tryd.func73, by kernel_rfl, rfl⟩
theorem fnOk74 : FnOk Tryd.prog 74 := ⟨_, Tryd.func74, by kernel_rfl, rfl⟩
theorem Many37 : Many Tryd.prog 37 [(.slice none 0 0), (.slice none 0 0)] := ⟨⟨_, Tryd.underlying37, trivial⟩, by kernel_rfl⟩
theorem One34 : One Tryd.prog 34 (.slice none 0 0) := ⟨⟨_, Tryd.underlying34, trivial⟩, by kernel_rfl, rfl⟩
theorem One35 : One Tryd.prog 35 (.slice none 0 0) := ⟨⟨_, Tryd.underlying35, trivial⟩, by kernel_rfl, rfl⟩
theorem One5 : One Tryd.prog 5 (.int .u8 (0)) := ⟨⟨_, Tryd.underlying5, trivial⟩, by kernel_rfl, rfl⟩
theorem SliceOf107 : SliceOf Tryd.prog 107 35 1 := ⟨Tryd.underlying107, by kernel_rfl⟩
theorem SliceOf34 : SliceOf Tryd.prog 34 24 6 := ⟨Tryd.underlying34, by kernel_rfl⟩
theorem SliceOf35 : SliceOf Tryd.prog 35 5 1 := ⟨Tryd.underlying35, by kernel_rfl⟩
theorem SliceOf78 : SliceOf Tryd.prog 78 34 1 := ⟨Tryd.underlying78, by kernel_rfl⟩
theorem Struct37 : Struct Tryd.prog 37 [(.slice none 0 0), (.slice none 0 0)] [(0, 1), (1, 1)] := ⟨by kernel_rfl, _, Tryd.underlying37, by kernel_rfl⟩
theorem strings_Cut_c (w0 : World) (M : BS) (hM : ∀ b, M b → b < w0.heap.size) (hT : Tabs Tryd.prog 3 w0) (a : Str) (b : Str) (r : Str × Str × Bool) (hs : cutS a b = some r) :
    Calls Tryd.prog 72 #[strV a, strV b] w0 (fun e w' => Grow w0 w' ∧ e = .returned (.tuple #[strV r.1, strV r.2.1, .bool r.2.2])) :=
  cut_w Tryd.strings_Cut hT hs
def disk_lines_b2 (a : Str) (b : Int) (s : Str × List Rec) (nx17 : Str × List Rec → Option (List Rec × Int × Int)) : Option (List Rec × Int × Int) :=
  match s with | (x10, x12) => bif decide ((x10 : Str) ≠ []) then (cutS x10 [10]).bind fun y21 => bif (!y21.2.2) then grd (I64 ((a.length : Int) - (x10.length : Int))) (some (x12, ((a.length : Int) - (x10.length : Int)), 8)) else (record_Parse y21.1).bind fun y26 => bif decide ((y26.2 : Int) ≠ 0) then grd (I64 ((a.length : Int) - (x10.length : Int))) (some (x12, ((a.length : Int) - (x10.length : Int)), y26.2)) else bif decide (((x12.length : Int) : Int) = b) then grd (I64 ((a.length : Int) - (x10.length : Int))) (some (x12, ((a.length : Int) - (x10.length : Int)), 2)) else grd (Room 80 x12 [y26.1]) (nx17 (y21.2.1, (x12 ++ [y26.1]))) else some (x12, (a.length : Int), 0)
def disk_lines (N : Nat) (a : Str) (b : Int) : Option (List Rec × Int × Int) :=
  again (disk_lines_b2 a b) N (a, [])
theorem disk_lines_c (N : Nat) (w0 : World) (M : BS) (hM : ∀ b, M b → b < w0.heap.size) (hT : Tabs Tryd.prog 3 w0) (a : Str) (b : Int) (r : List Rec × Int × Int) (hs : disk_lines N a b = some r) :
    Calls Tryd.prog 48 #[(strV a), (.int .i64 (b))] w0 (fun e w' => Grow w0 w' ∧ ∃ u0, e = .returned (.tuple #[u0, .int .i64 r.2.1, .int .i64 r.2.2]) ∧ OwnSl rRec 24 w' M u0 r.1 ∧ (∀ b, ob u0 b → w0.heap.size ≤ b)) := by
 refine calls_start (args := [(strV a), (.int .i64 (b))]) Tryd.func48 rfl Tryd.ntmps48 (Nat.le_of_ble_eq_true rfl) ?_
 have h := SH.init hM
 refine wc_seq (wc_region (wl_ok (r_assign (v := (.slice none 0 0)) rfl) (wl_ok (r_assign (v := (.int .i64 (0))) rfl) (wl_ok (r_assign (v := (.int .i64 (0))) rfl) (wl_nil (then_normal (wc_seq (wc_region (wl_ok (r_assign (v := (.slice none 0 0)) rfl) (wl_nil (then_normal (wc_seq (wc_region (wl_ok (r_move (v := (strV a)) rfl) (wl_ok (r_lenS Tryd.underlying9 rfl) (wl_ok (r_assign (v := (.int .i64 ((a.length : Int)))) rfl) (wl_nil (then_normal (wc_seq (wc_block ?_))))))))))))))))))))
 replace h := h.nilO (R := rRec) (E := 24) 4
 refine wc_lp (σ := Nat × Str × Value × List Rec) (inl [0, 4, 5, 6, 7, 9, 10, 11, 12, 13, 16, 17, 18, 19, 20, 21, 22, 23, 24, 25, 26, 27, 28, 29, 30, 31, 32, 33, 34, 35, 36, 37, 38, 39, 40, 41, 42, 43, 44, 45, 46, 47, 48, 49, 50, 51, 52, 53, 54, 55, 56, 57]) (fun ⟨m16, x10, v11, x12⟩ => [(0, (strV x10)), (7, v11)]) (fun ⟨m16, x10, v11, x12⟩ w => SH w0 M BE w (hset [(4, .own rRec 24 v11 x12)]) ∧ again (disk_lines_b2 a b) m16 (x10, x12) = some r) (fun ⟨m16, x10, v11, x12⟩ => m16) ⟨N, a, (.slice none 0 0), []⟩ ⟨rfl, rfl, trivial⟩ ?_ ?_
 ·
  exact ⟨h.cn _, hs⟩
 ·
  rintro ⟨m16, x10, v11, x12⟩ w junk ⟨h, hs⟩
  obtain ⟨m161, m16e, m16h⟩ := again_pos hs
  subst m16e
  replace hs := m16h
  generalize hnx17 : again (disk_lines_b2 a b) m161 = nx17 at hs
  refine wc_seq (wc_seq (wc_region (wl_ok (r_move (v := (strV x10)) rfl) (wl_ok (r_neqs rfl rfl) (wl_nil (then_normal (wc_ifb hs rfl (fun c20 hs => ?_) (fun c20 hs => ?_))))))))
  ·
   refine wc_skip (then_normal (wc_block (wc_seq (wc_region (wl_ok (r_move (v := (strV x10)) rfl) ?_)))))
   obtain ⟨y21, e22, hs⟩ := o_bind hs
   refine w_call fnOk72 rfl rfl (strings_Cut_c _ _ h.lt (hT.go h.keep) x10 [10] _ e22) ?_
   rintro _ w ⟨k23, rfl⟩
   refine ⟨_, rfl, ?_⟩
   replace h := h.grow k23
   refine wl_ok (r_move (v := (.tuple #[(strV y21.1), (strV y21.2.1), (.bool (y21.2.2))])) rfl) (wl_ok (r_extract rfl rfl) (wl_ok (r_extract rfl rfl) (wl_ok (r_extract rfl rfl) (wl_ok (r_assign (v := (strV y21.1)) rfl) (wl_ok (r_assign (v := (strV y21.2.1)) rfl) (wl_ok (r_assign (v := (.bool (y21.2.2))) rfl) (wl_nil (then_normal (wc_seq (wc_seq (wc_region (wl_ok (r_move (v := (.bool (y21.2.2))) rfl) (wl_ok (r_notb rfl) (wl_nil (then_normal (wc_ifb hs rfl (fun c24 hs => ?_) (fun c24 hs => ?_)))))))))))))))))
   ·
    refine wc_seq (wc_region (wl_ok (r_move (v := v11) rfl) (wl_ok (r_move (v := (.int .i64 ((a.length : Int)))) rfl) (wl_ok (r_move (v := (strV x10)) rfl) (wl_ok (r_lenS Tryd.underlying9 rfl) ?_)))))
    obtain ⟨a25, hs⟩ := o_grd hs
    refine wl_ok (r_sub rfl rfl a25) (wl_ok (r_assign (v := v11) rfl) (wl_ok (r_assign (v := (.int .i64 (((a.length : Int) - (x10.length : Int))))) rfl) (wl_ok (r_assign (v := (.int .i64 (8))) rfl) (wl_nil (then_normal (wc_ret (then_ret (inBlock_ret (then_ret (inBlock_ret (then_ret (fin3 (v1 := v11) (v2 := (.int .i64 (((a.length : Int) - (x10.length : Int))))) (v3 := (.int .i64 (8))) Tryd.results48 rfl rfl rfl ?_))))))))))))
    obtain rfl := Option.some.inj hs
    exact ⟨h.grown, _, rfl, (h.outOwn 4 rfl).1, (h.outOwn 4 rfl).2⟩
   ·
    refine wc_skip (then_normal (wc_seq (wc_region (wl_ok (r_move (v := (strV y21.1)) rfl) ?_))))
    obtain ⟨y26, e27, hs⟩ := o_bind hs
    refine w_call fnOk11 rfl rfl (record_Parse_c _ _ h.lt (hT.go h.keep) y21.1 _ e27) ?_
    rintro _ w ⟨k32, u28, u30, rfl, g29, g31⟩
    refine ⟨_, rfl, ?_⟩
    replace h := h.gotRd 5 k32 g29
    replace h := h.knowRd 6 g31.up
    refine wl_ok (r_move (v := (.tuple #[(.agg #[(.int .i64 (y26.1.kind)), (.int .i64 (y26.1.co)), (.int .i64 (y26.1.epoch)), (.int .i64 (y26.1.place)), u28, u30]), (.int .i64 (y26.2))])) rfl) (wl_ok (r_extract rfl rfl) (wl_ok (r_extract rfl rfl) (w_allocN h 7 Many24 fun w b33 h => w_stN (vs := [(.int .i64 (y26.1.kind)), (.int .i64 (y26.1.co)), (.int .i64 (y26.1.epoch)), (.int .i64 (y26.1.place)), u28, u30]) h 7 [(.int .i64 (y26.1.kind)), (.int .i64 (y26.1.co)), (.int .i64 (y26.1.epoch)), (.int .i64 (y26.1.place)), u28, u30] rfl Many24 rfl rfl rfl rfl rfl (ones_cons rfl (ones_cons rfl (ones_cons rfl (ones_cons rfl (ones_cons (h.rdAt 5 rfl).one (ones_cons (h.rdAt 6 rfl).one ones_nil)))))) fun w h => wl_ok (r_assign (v := (.int .i64 (y26.2))) rfl) (wl_nil (then_normal (wc_seq (wc_seq (wc_region (wl_ok (r_move (v := (.int .i64 (y26.2))) rfl) (wl_ok (r_neq rfl rfl) (wl_nil (then_normal (wc_ifb hs rfl (fun c34 hs => ?_) (fun c34 hs => ?_))))))))))))))
    ·
     refine wc_seq (wc_region (wl_ok (r_move (v := v11) rfl) (wl_ok (r_move (v := (.int .i64 ((a.length : Int)))) rfl) (wl_ok (r_move (v := (strV x10)) rfl) (wl_ok (r_lenS Tryd.underlying9 rfl) ?_)))))
     obtain ⟨a35, hs⟩ := o_grd hs
     refine wl_ok (r_sub rfl rfl a35) (wl_ok (r_move (v := (.int .i64 (y26.2))) rfl) (wl_ok (r_assign (v := v11) rfl) (wl_ok (r_assign (v := (.int .i64 (((a.length : Int) - (x10.length : Int))))) rfl) (wl_ok (r_assign (v := (.int .i64 (y26.2))) rfl) (wl_nil (then_normal (wc_ret (then_ret (inBlock_ret (then_ret (inBlock_ret (then_ret (fin3 (v1 := v11) (v2 := (.int .i64 (((a.length : Int) - (x10.length : Int))))) (v3 := (.int .i64 (y26.2))) Tryd.results48 rfl rfl rfl ?_)))))))))))))
     obtain rfl := Option.some.inj hs
     exact ⟨h.grown, _, rfl, (h.outOwn 4 rfl).1, (h.outOwn 4 rfl).2⟩
    ·
     refine wc_skip (then_normal (wc_seq (wc_seq (wc_region (wl_ok (r_move (v := v11) rfl) (wl_ok (r_len SliceOf34 rfl (h.ownS 4 rfl)) (wl_ok (r_move (v := (.int .i64 (b))) rfl) (wl_ok (r_eql rfl rfl) (wl_nil (then_normal (wc_ifb hs rfl (fun c36 hs => ?_) (fun c36 hs => ?_))))))))))))
     ·
      refine wc_seq (wc_region (wl_ok (r_move (v := v11) rfl) (wl_ok (r_move (v := (.int .i64 ((a.length : Int)))) rfl) (wl_ok (r_move (v := (strV x10)) rfl) (wl_ok (r_lenS Tryd.underlying9 rfl) ?_)))))
      obtain ⟨a37, hs⟩ := o_grd hs
      refine wl_ok (r_sub rfl rfl a37) (wl_ok (r_assign (v := v11) rfl) (wl_ok (r_assign (v := (.int .i64 (((a.length : Int) - (x10.length : Int))))) rfl) (wl_ok (r_assign (v := (.int .i64 (2))) rfl) (wl_nil (then_normal (wc_ret (then_ret (inBlock_ret (then_ret (inBlock_ret (then_ret (fin3 (v1 := v11) (v2 := (.int .i64 (((a.length : Int) - (x10.length : Int))))) (v3 := (.int .i64 (2))) Tryd.results48 rfl rfl rfl ?_))))))))))))
      obtain rfl := Option.some.inj hs
      exact ⟨h.grown, _, rfl, (h.outOwn 4 rfl).1, (h.outOwn 4 rfl).2⟩
     ·
      refine wc_skip (then_normal (wc_region (wl_ok (r_move (v := v11) rfl) (wl_ok (r_ldBN (vs := [(.int .i64 (y26.1.kind)), (.int .i64 (y26.1.co)), (.int .i64 (y26.1.epoch)), (.int .i64 (y26.1.place)), u28, u30]) h 7 rfl Many24 rfl rfl rfl) (w_bs (R := rRec) (vs := [(.agg #[(.int .i64 (y26.1.kind)), (.int .i64 (y26.1.co)), (.int .i64 (y26.1.epoch)), (.int .i64 (y26.1.place)), u28, u30])]) (xs := [y26.1]) h 8 ElemOf34 rfl rfl rfl ⟨⟨_, _, rfl, (h.rdAt 5 rfl), (h.rdAt 6 rfl)⟩, trivial⟩ rfl fun w u38 h => ?_)))))
      obtain ⟨a39, hs⟩ := o_grd hs
      refine w_app (R := rRec) (m := [y26.1]) h 4 rfl (h.ownS 8 rfl) ElemOf34 rfl rfl rfl a39.1 a39.2 fun w u40 h => wl_ok (r_move (v := (strV y21.2.1)) rfl) (wl_ok (r_assign (v := u40) rfl) (wl_ok (r_assign (v := (strV y21.2.1)) rfl) (wl_nil (inBlock_normal (then_loop ?_)))))
      subst hnx17
      exact lend ⟨m161, y21.2.1, u40, (x12 ++ [y26.1])⟩ ⟨h.cn _, hs⟩
  ·
   refine wc_exit (then_exit (then_exit (inBlock_eq (then_normal (wc_seq (wc_region (wl_ok (r_move (v := v11) rfl) (wl_ok (r_move (v := (.int .i64 ((a.length : Int)))) rfl) (wl_ok (r_assign (v := v11) rfl) (wl_ok (r_assign (v := (.int .i64 ((a.length : Int)))) rfl) (wl_ok (r_assign (v := (.int .i64 (0))) rfl) (wl_nil (then_normal (wc_ret (fin3 (v1 := v11) (v2 := (.int .i64 ((a.length : Int)))) (v3 := (.int .i64 (0))) Tryd.results48 rfl rfl rfl ?_)))))))))))))))
   obtain rfl := Option.some.inj hs
   exact ⟨h.grown, _, rfl, (h.outOwn 4 rfl).1, (h.outOwn 4 rfl).2⟩
def disk_Check_j2 (N : Nat) (a : Disk) (x2 : Bool) : Option Int :=
  bif x2 then some 2 else (disk_lines N a.safe 120).bind fun y4 => some y4.2.2
def disk_Check (N : Nat) (a : Disk) : Option Int :=
  bif decide ((60000 : Int) < (a.safe.length : Int)) then disk_Check_j2 N a true else grd (I64 (60000 - (a.safe.length : Int))) (disk_Check_j2 N a (decide (((60000 - (a.safe.length : Int)) : Int) < (a.wait.length : Int))))
theorem disk_Check_c (N : Nat) (w0 : World) (M : BS) (hM : ∀ b, M b → b < w0.heap.size) (hT : Tabs Tryd.prog 3 w0) (a : Disk) (va0 va1 : Value) (ha0 : Rd2 rByte w0 BE M va0 a.safe) (ha1 : Rd2 rByte w0 BE M va1 a.wait) (r : Int) (hs : disk_Check N a = some r) :
    Calls Tryd.prog 27 #[(.agg #[va0, va1])] w0 (fun e w' => Grow w0 w' ∧ e = .returned (.int .i64 r)) := by
 refine calls_start (args := [(.agg #[va0, va1])]) Tryd.func27 rfl Tryd.ntmps27 (Nat.le_of_ble_eq_true rfl) ?_
 have h := SH.init hM
 replace h := h.argSr 1 ha0 none_own
 replace h := h.argSr 2 ha1 (hupd_own_sr none_own)
 refine wc_seq (wc_region (w_box (cs := [va0, va1]) h 3 rfl rfl fun w b1 h => wl_ok (r_assign (v := (.int .i64 (0))) rfl) (wl_nil (then_normal (wc_seq (wc_join (σ := Bool) (inl [6, 7, 8, 9, 10, 11, 12, 13, 14, 15, 16, 17, 18, 19]) (fun x2 => [(19, (.bool (x2)))]) (fun x2 w => SH w0 M BE w (hset [(1, .sr rByte va0 a.safe), (2, .sr rByte va1 a.wait), (3, .blk b1 [va0, va1])]) ∧ disk_Check_j2 N a x2 = some r) ?_ ?_))))))
 ·
  rintro x2 w junk ⟨h, hs⟩
  refine wc_ifb hs rfl (fun c3 hs => ?_) (fun c3 hs => ?_)
  ·
   refine wc_seq (wc_region (wl_ok (r_assign (v := (.int .i64 (2))) rfl) (wl_nil (then_normal (wc_ret (then_ret (fin1 (v := (.int .i64 (2))) Tryd.results27 rfl ?_)))))))
   obtain rfl := Option.some.inj hs
   exact ⟨h.grown, rfl⟩
  ·
   refine wc_skip (then_normal (wc_seq (wc_region (wl_ok (r_fieldAddr Fld37x0 rfl) (wl_ok (r_ldB h 3 rfl One35 rfl rfl) (wl_ok (r_b2s Tryd.underlying35 Tryd.underlying5 Tryd.underlying9 rfl (h.srS 1 rfl)) ?_))))))
   obtain ⟨y4, e5, hs⟩ := o_bind hs
   refine w_call fnOk48 rfl rfl (disk_lines_c N _ _ h.lt (hT.go h.keep) a.safe 120 _ e5) ?_
   rintro _ w ⟨k9, u6, rfl, g7, g8⟩
   refine ⟨_, rfl, ?_⟩
   replace h := h.gotOwn 4 k9 g7 g8
   refine wl_ok (r_move (v := (.tuple #[u6, (.int .i64 (y4.2.1)), (.int .i64 (y4.2.2))])) rfl) (wl_ok (r_extract rfl rfl) (wl_ok (r_extract rfl rfl) (wl_ok (r_extract rfl rfl) (wl_ok (r_assign (v := u6) rfl) (wl_ok (r_assign (v := (.int .i64 (y4.2.1))) rfl) (wl_ok (r_assign (v := (.int .i64 (y4.2.2))) rfl) (wl_nil (then_normal (wc_seq (wc_region (wl_ok (r_move (v := (.int .i64 (y4.2.2))) rfl) (wl_ok (r_assign (v := (.int .i64 (y4.2.2))) rfl) (wl_nil (then_normal (wc_ret (fin1 (v := (.int .i64 (y4.2.2))) Tryd.results27 rfl ?_))))))))))))))))
   obtain rfl := Option.some.inj hs
   exact ⟨h.grown, rfl⟩
 ·
  refine wc_region (wl_ok (r_fieldAddr Fld37x0 rfl) (wl_ok (r_ldB h 3 rfl One35 rfl rfl) (wl_ok (r_len SliceOf35 rfl (h.srS 1 rfl)) (wl_ok (r_gtr rfl rfl) (wl_ok (r_move (v := (.bool (decide ((60000 : Int) < (a.safe.length : Int))))) rfl) (c_split (b := decide ((60000 : Int) < (a.safe.length : Int))) hs (fun c10 hs => ?_) (fun c10 hs => ?_)))))))
  ·
   refine wl_off (b' := true) rfl (congrArg Value.bool c10) rfl (wl_off (b' := true) rfl (congrArg Value.bool c10) rfl (wl_off (b' := true) rfl (congrArg Value.bool c10) rfl (wl_off (b' := true) rfl (congrArg Value.bool c10) rfl (wl_off (b' := true) rfl (congrArg Value.bool c10) rfl (wl_off (b' := true) rfl (congrArg Value.bool c10) rfl (wl_off (b' := true) rfl (congrArg Value.bool c10) rfl (wl_off (b' := true) rfl (congrArg Value.bool c10) rfl (wl_ok (r_pick (b := true) (v := (.bool (true))) (congrArg Value.bool c10) rfl) (wl_nil (then_loop ?_))))))))))
   exact jend true ⟨h.cn _, hs⟩
  ·
   refine wl_on rfl (congrArg Value.bool c10) (wl_ok (r_fieldAddr Fld37x1 rfl) (wl_on rfl (congrArg Value.bool c10) (wl_ok (r_ldB h 3 rfl One35 rfl rfl) (wl_on rfl (congrArg Value.bool c10) (wl_ok (r_len SliceOf35 rfl (h.srS 2 rfl)) (wl_on rfl (congrArg Value.bool c10) (wl_ok (r_fieldAddr Fld37x0 rfl) (wl_on rfl (congrArg Value.bool c10) (wl_ok (r_ldB h 3 rfl One35 rfl rfl) (wl_on rfl (congrArg Value.bool c10) (wl_ok (r_len SliceOf35 rfl (h.srS 1 rfl)) (wl_on rfl (congrArg Value.bool c10) ?_))))))))))))
   obtain ⟨a11, hs⟩ := o_grd hs
   refine wl_ok (r_sub rfl rfl a11) (wl_on rfl (congrArg Value.bool c10) (wl_ok (r_gtr rfl rfl) (wl_ok (r_pick (b := false) (v := (.bool (decide (((60000 - (a.safe.length : Int)) : Int) < (a.wait.length : Int))))) (congrArg Value.bool c10) rfl) (wl_nil (then_loop ?_)))))
   exact jend (decide (((60000 - (a.safe.length : Int)) : Int) < (a.wait.length : Int))) ⟨h.cn _, hs⟩
theorem slices_Clone_byte_c (w0 : World) (M : BS) (hM : ∀ b, M b → b < w0.heap.size) (va : Value) (a : List UInt8) (ha : Rd2 rByte w0 BE M va a) (r : List UInt8) (hs : clone 1 a = some r) :
    Calls Tryd.prog 46 #[va] w0 (fun e w' => Grow w0 w' ∧ ∃ u0, e = .returned u0 ∧ OwnSl rByte 5 w' M u0 r ∧ (∀ b, ob u0 b → w0.heap.size ≤ b)) := by
  obtain ⟨hr, hs⟩ := o_grd hs
  cases hs
  refine calls_start (args := [va]) Tryd.func46 rfl Tryd.ntmps46 (Nat.le_of_ble_eq_true rfl) ?_
  have h := (SH.init hM).argSr 1 ha none_own
  refine wc_seq (wc_region (wl_ok (r_assign rfl) (wl_nil (then_normal ?_))))
  refine wc_seq (wc_seq (wc_region (wl_ok (r_move rfl) (wl_ok (r_eqnil SliceOf35 rfl (h.srS 1 rfl) rfl) (wl_nil (then_normal ?_))))))
  refine wc_if rfl (fun c => ?_) (fun c => ?_)
  · obtain ⟨c1, c2⟩ := nil_of_isNil (h.srS 1 rfl) c
    refine wc_seq (wc_region (wl_ok (r_assign rfl) (wl_nil (then_normal (wc_ret (then_ret ?_))))))
    refine fin1 (v := .slice none 0 0) Tryd.results46 rfl ?_
    rw [c2]
    exact ⟨h.grown, _, rfl, OwnSl.nil, fresh_nil⟩
  · refine wc_skip (then_normal ?_)
    refine wc_seq (wc_region ?_)
    refine w_bs (R := rByte) (vs := []) (xs := []) h 2 ElemOf35 rfl rfl rfl trivial rfl fun w u h => ?_
    refine wl_ok (r_move rfl) ?_
    refine w_app (R := rByte) (m := a) h 2 rfl (h.srS 1 rfl) ElemOf35 rfl rfl rfl hr.1 hr.2 fun w u h => ?_
    refine wl_ok (r_assign rfl) (wl_nil (then_normal (wc_ret ?_)))
    refine fin1 (v := u) Tryd.results46 rfl ?_
    exact ⟨h.grown, _, rfl, (h.outOwn 2 rfl).1, (h.outOwn 2 rfl).2⟩
def disk_Put (N : Nat) (a : Disk) (b : Rec) : Option (Disk × Int) :=
  (disk_Check N a).bind fun y4 => bif decide ((y4 : Int) ≠ 0) then some ((⟨[], []⟩ : Disk), y4) else (record_Print b).bind fun y8 => bif decide ((y8.2 : Int) ≠ 0) then some ((⟨[], []⟩ : Disk), y8.2) else grd (I64 ((y8.1.length : Int) + 1)) (grd (I64 (60000 - (a.safe.length : Int))) (grd (I64 ((60000 - (a.safe.length : Int)) - (a.wait.length : Int))) (bif decide ((((60000 - (a.safe.length : Int)) - (a.wait.length : Int)) : Int) < ((y8.1.length : Int) + 1)) then some ((⟨[], []⟩ : Disk), 2) else (clone 1 a.safe).bind fun yq17x2_1 => (clone 1 a.wait).bind fun yq17x5_1 => grd (Room 1 yq17x5_1 y8.1) (grd (Room 1 (yq17x5_1 ++ y8.1) [(10 : UInt8)]) (some ((⟨yq17x2_1, ((yq17x5_1 ++ y8.1) ++ [(10 : UInt8)])⟩ : Disk), 0))))))
theorem disk_Put_c (N : Nat) (w0 : World) (M : BS) (hM : ∀ b, M b → b < w0.heap.size) (hT : Tabs Tryd.prog 3 w0) (a : Disk) (va0 va1 : Value) (ha0 : Rd2 rByte w0 BE M va0 a.safe) (ha1 : Rd2 rByte w0 BE M va1 a.wait) (b : Rec) (vb4 vb5 : Value) (hb4 : RdSl rInt w0 M vb4 b.says) (hb5 : RdSl rInt w0 M vb5 b.image) (r : Disk × Int) (hs : disk_Put N a b = some r) :
    Calls Tryd.prog 18 #[(.agg #[va0, va1]), (.agg #[(.int .i64 (b.kind)), (.int .i64 (b.co)), (.int .i64 (b.epoch)), (.int .i64 (b.place)), vb4, vb5])] w0 (fun e w' => Grow w0 w' ∧ ∃ u0_0, ∃ u0_1, e = .returned (.tuple #[.agg #[u0_0, u0_1], .int .i64 r.2]) ∧ RdSl rByte w' M u0_0 r.1.safe ∧ RdSl rByte w' M u0_1 r.1.wait) := by
 refine calls_start (args := [(.agg #[va0, va1]), (.agg #[(.int .i64 (b.kind)), (.int .i64 (b.co)), (.int .i64 (b.epoch)), (.int .i64 (b.place)), vb4, vb5])]) Tryd.func18 rfl Tryd.ntmps18 (Nat.le_of_ble_eq_true rfl) ?_
 have h := SH.init hM
 replace h := h.argSr 1 ha0 none_own
 replace h := h.argSr 2 ha1 (hupd_own_sr none_own)
 replace h := h.argRd 3 hb4 (hupd_own_sr (hupd_own_sr none_own))
 replace h := h.argRd 4 hb5 (hupd_own_rd (hupd_own_sr (hupd_own_sr none_own)))
 refine wc_seq (wc_region (w_box (cs := [va0, va1]) h 5 rfl rfl fun w b1 h => w_box (cs := [(.int .i64 (b.kind)), (.int .i64 (b.co)), (.int .i64 (b.epoch)), (.int .i64 (b.place)), vb4, vb5]) h 6 rfl rfl fun w b2 h => w_allocN h 7 Many37 fun w b3 h => wl_ok (r_assign (v := (.int .i64 (0))) rfl) (wl_nil (then_normal (wc_seq (wc_seq (wc_region (wl_ok (r_ldBN (vs := [va0, va1]) h 5 rfl Many37 rfl rfl rfl) ?_))))))))
 obtain ⟨y4, e5, hs⟩ := o_bind hs
 refine w_call fnOk27 rfl rfl (disk_Check_c N _ _ h.lt (hT.go h.keep) a va0 va1 (h.srS 1 rfl) (h.srS 2 rfl) _ e5) ?_
 rintro _ w ⟨k6, rfl⟩
 refine ⟨_, rfl, ?_⟩
 replace h := h.grow k6
 refine wl_ok (r_assign (v := (.int .i64 (y4))) rfl) (wl_nil (then_normal (wc_seq (wc_region (wl_ok (r_move (v := (.int .i64 (y4))) rfl) (wl_ok (r_neq rfl rfl) (wl_nil (then_normal (wc_ifb hs rfl (fun c7 hs => ?_) (fun c7 hs => ?_))))))))))
 ·
  refine wc_seq (wc_region (wl_ok (r_build (pv := []) (out := [(.slice none 0 0), (.slice none 0 0)]) Struct37 rfl rfl) (wl_ok (r_move (v := (.int .i64 (y4))) rfl) (w_stN (vs := [(.slice none 0 0), (.slice none 0 0)]) h 7 [(.slice none 0 0), (.slice none 0 0)] rfl Many37 rfl rfl rfl rfl rfl (ones_cons rfl (ones_cons rfl ones_nil)) fun w h => wl_ok (r_assign (v := (.int .i64 (y4))) rfl) (wl_nil (then_normal (wc_ret (then_ret (fin_ct (vs := [(.slice none 0 0), (.slice none 0 0)]) (v2 := (.int .i64 (y4))) Tryd.results18 rfl rfl h 7 rfl Many37 rfl ?_)))))))))
  obtain rfl := Option.some.inj hs
  exact ⟨h.grown, _, _, rfl, Rd2.nil, Rd2.nil⟩
 ·
  refine wc_skip (then_normal (wc_seq (wc_region (wl_ok (r_ldBN (vs := [(.int .i64 (b.kind)), (.int .i64 (b.co)), (.int .i64 (b.epoch)), (.int .i64 (b.place)), vb4, vb5]) h 6 rfl Many24 rfl rfl rfl) ?_))))
  obtain ⟨y8, e9, hs⟩ := o_bind hs
  refine w_call fnOk8 rfl rfl (record_Print_c _ _ h.lt (hT.go h.keep) b vb4 vb5 (h.rdAt 3 rfl) (h.rdAt 4 rfl) _ e9) ?_
  rintro _ w ⟨k10, rfl⟩
  refine ⟨_, rfl, ?_⟩
  replace h := h.grow k10
  refine wl_ok (r_move (v := (.tuple #[(strV y8.1), (.int .i64 (y8.2))])) rfl) (wl_ok (r_extract rfl rfl) (wl_ok (r_extract rfl rfl) (wl_ok (r_assign (v := (strV y8.1)) rfl) (wl_ok (r_assign (v := (.int .i64 (y8.2))) rfl) (wl_nil (then_normal (wc_seq (wc_seq (wc_region (wl_ok (r_move (v := (.int .i64 (y8.2))) rfl) (wl_ok (r_neq rfl rfl) (wl_nil (then_normal (wc_ifb hs rfl (fun c11 hs => ?_) (fun c11 hs => ?_)))))))))))))))
  ·
   refine wc_seq (wc_region (wl_ok (r_build (pv := []) (out := [(.slice none 0 0), (.slice none 0 0)]) Struct37 rfl rfl) (wl_ok (r_move (v := (.int .i64 (y8.2))) rfl) (w_stN (vs := [(.slice none 0 0), (.slice none 0 0)]) h 7 [(.slice none 0 0), (.slice none 0 0)] rfl Many37 rfl rfl rfl rfl rfl (ones_cons rfl (ones_cons rfl ones_nil)) fun w h => wl_ok (r_assign (v := (.int .i64 (y8.2))) rfl) (wl_nil (then_normal (wc_ret (then_ret (fin_ct (vs := [(.slice none 0 0), (.slice none 0 0)]) (v2 := (.int .i64 (y8.2))) Tryd.results18 rfl rfl h 7 rfl Many37 rfl ?_)))))))))
   obtain rfl := Option.some.inj hs
   exact ⟨h.grown, _, _, rfl, Rd2.nil, Rd2.nil⟩
  ·
   refine wc_skip (then_normal (wc_seq (wc_seq (wc_region (wl_ok (r_move (v := (strV y8.1)) rfl) (wl_ok (r_lenS Tryd.underlying9 rfl) ?_))))))
   obtain ⟨a12, hs⟩ := o_grd hs
   refine wl_ok (r_add rfl rfl a12) (wl_ok (r_fieldAddr Fld37x0 rfl) (wl_ok (r_ldB h 5 rfl One35 rfl rfl) (wl_ok (r_len SliceOf35 rfl (h.srS 1 rfl)) ?_)))
   obtain ⟨a13, hs⟩ := o_grd hs
   refine wl_ok (r_sub rfl rfl a13) (wl_ok (r_fieldAddr Fld37x1 rfl) (wl_ok (r_ldB h 5 rfl One35 rfl rfl) (wl_ok (r_len SliceOf35 rfl (h.srS 2 rfl)) ?_)))
   obtain ⟨a14, hs⟩ := o_grd hs
   refine wl_ok (r_sub rfl rfl a14) (wl_ok (r_gtr rfl rfl) (wl_nil (then_normal (wc_ifb hs rfl (fun c15 hs => ?_) (fun c15 hs => ?_)))))
   ·
    refine wc_seq (wc_region (wl_ok (r_build (pv := []) (out := [(.slice none 0 0), (.slice none 0 0)]) Struct37 rfl rfl) (w_stN (vs := [(.slice none 0 0), (.slice none 0 0)]) h 7 [(.slice none 0 0), (.slice none 0 0)] rfl Many37 rfl rfl rfl rfl rfl (ones_cons rfl (ones_cons rfl ones_nil)) fun w h => wl_ok (r_assign (v := (.int .i64 (2))) rfl) (wl_nil (then_normal (wc_ret (then_ret (fin_ct (vs := [(.slice none 0 0), (.slice none 0 0)]) (v2 := (.int .i64 (2))) Tryd.results18 rfl rfl h 7 rfl Many37 rfl ?_))))))))
    obtain rfl := Option.some.inj hs
    exact ⟨h.grown, _, _, rfl, Rd2.nil, Rd2.nil⟩
   ·
    refine wc_skip (then_normal (wc_seq (wck_held (L := (fun x => x = b3)) mixed h fun w h => whk_ok 0 (Keep.refl _ _) rfl want_none (by kernel_rfl) (by kernel_rfl) (by kernel_rfl) (fun w hk => r_fieldAddr Fld37x0 rfl) (whk_ok 1 (Keep.refl _ _) rfl want_none (by kernel_rfl) (by kernel_rfl) (by kernel_rfl) (fun w hk => have h := h.loseC 7 rfl hk; r_ldB h 5 rfl One35 rfl rfl) (whk_ok 3 (Keep.refl _ _) rfl want_none (by kernel_rfl) (by kernel_rfl) (by kernel_rfl) (fun w hk => r_fieldAddr Fld37x1 rfl) (whk_ok 4 (Keep.refl _ _) rfl want_none (by kernel_rfl) (by kernel_rfl) (by kernel_rfl) (fun w hk => have h := h.loseC 7 rfl hk; r_ldB h 5 rfl One35 rfl rfl) (whk_ok 6 (Keep.refl _ _) rfl want_none (by kernel_rfl) (by kernel_rfl) (by kernel_rfl) (fun w hk => r_move (v := (strV y8.1)) rfl) ?_)))))))
    obtain ⟨yq17x2_1, eq17x2_2, hs⟩ := o_bind hs
    obtain ⟨yq17x5_1, eq17x5_2, hs⟩ := o_bind hs
    obtain ⟨aq17x7_1, hs⟩ := o_grd hs
    obtain ⟨aq17x9_1, hs⟩ := o_grd hs
    obtain ⟨ws18, ws18e⟩ : ∃ x, x = w := ⟨_, rfl⟩
    have hg19 : Keep (fun x => x = b3) ws18 w := ws18e ▸ Keep.refl (fun x => x = b3) w
    refine whk_at ws18e.symm (whk_eff2 2 8 (by kernel_rfl) rfl want_none rfl want_none ?_ ?_)
    ·
     refine w_call fnOk46 rfl rfl (slices_Clone_byte_c _ _ h.lt va0 a.safe (h.srS 1 rfl) _ eq17x2_2) ?_
     rintro _ w ⟨kq17x2_6, uq17x2_3, rfl, gq17x2_4, gq17x2_5⟩
     refine ⟨_, rfl, ?_⟩
     replace h := h.gotOwn 32 kq17x2_6 gq17x2_4 gq17x2_5
     have uq17x2_3q : ∀ b, ob uq17x2_3 b → ws18.heap.size ≤ b := fun b hb => Nat.le_trans hg19.size (gq17x2_5 b hb)
     replace hg19 := hg19.grow kq17x2_6
     refine wl_nil (whk_back hg19 (whk_eff2 5 8 (by kernel_rfl) rfl want_none rfl want_none ?_ ?_))
     ·
      refine w_call fnOk46 rfl rfl (slices_Clone_byte_c _ _ h.lt va1 a.wait (h.srS 2 rfl) _ eq17x5_2) ?_
      rintro _ w ⟨kq17x5_6, uq17x5_3, rfl, gq17x5_4, gq17x5_5⟩
      refine ⟨_, rfl, ?_⟩
      replace h := h.gotOwn 68 kq17x5_6 gq17x5_4 gq17x5_5
      have uq17x5_3q : ∀ b, ob uq17x5_3 b → ws18.heap.size ≤ b := fun b hb => Nat.le_trans hg19.size (gq17x5_5 b hb)
      replace hg19 := hg19.grow kq17x5_6
      refine wl_nil (whk_back hg19 (whk_eff2 7 8 (by kernel_rfl) rfl want_none rfl want_none ?_ ?_))
      ·
       have uq17x7_2z := hg19.size
       refine w_appSN h 68 rfl ElemOf35 One5 Tryd.underlying9 rfl rfl aq17x7_1.1 aq17x7_1.2 fun w uq17x7_2 h uq17x7_2k uq17x7_2n => ?_
       replace hg19 := hg19.freshK uq17x7_2k uq17x5_3q
       have uq17x7_2q := still_new uq17x7_2z uq17x5_3q uq17x7_2n
       refine wl_nil (whk_back hg19 (whk_eff 8 (by kernel_rfl) rfl want_none (w_bsG (R := rByte) (vs := [(.int .u8 (10))]) (xs := [(10 : UInt8)]) h 104 ElemOf35 rfl rfl rfl ⟨rfl, trivial⟩ rfl fun w uq17x8_1 h uq17x8_1k uq17x8_1f => ?_)))
       have uq17x8_1q : ∀ b, ob uq17x8_1 b → ws18.heap.size ≤ b := fun b hb => Nat.le_trans hg19.size (uq17x8_1f b hb)
       replace hg19 := hg19.grow uq17x8_1k
       refine wl_nil (whk_back hg19 (whk_eff 9 (by kernel_rfl) rfl want_none ?_))
       have uq17x9_2z := hg19.size
       refine w_appGN (R := rByte) (m := [(10 : UInt8)]) h 68 rfl (h.ownS 104 rfl) ElemOf35 rfl rfl rfl aq17x9_1.1 aq17x9_1.2 fun w uq17x9_2 h uq17x9_2k uq17x9_2n => ?_
       replace hg19 := hg19.freshK uq17x9_2k uq17x7_2q
       have uq17x9_2q := still_new uq17x9_2z uq17x7_2q uq17x9_2n
       refine wl_nil (whk_back hg19 (whk_ok 10 hg19 rfl want_none (by kernel_rfl) (by kernel_rfl) (by kernel_rfl) (fun w hk => r_build (pv := [(0, uq17x2_3), (1, uq17x9_2)]) (out := [uq17x2_3, uq17x9_2]) Struct37 rfl ⟨0, 1, [uq17x2_3], rfl, (toList_of_one (h.ownAt 32 rfl).one), rfl, Nat.le_of_ble_eq_true rfl, ⟨1, 1, [uq17x9_2], rfl, (toList_of_one (h.ownAt 68 rfl).one), rfl, Nat.le_of_ble_eq_true rfl, rfl⟩⟩) (whk_eff 11 (by kernel_rfl) rfl want_none (w_stNG (vs := [uq17x2_3, uq17x9_2]) h 7 [uq17x2_3, uq17x9_2] rfl Many37 rfl rfl rfl rfl rfl (ones_cons (h.ownAt 32 rfl).one (ones_cons (h.ownAt 68 rfl).one ones_nil)) fun w h kq17x11_1 => ?_))))
       replace hg19 := hg19.same kq17x11_1
       refine wl_nil (whk_back hg19 (whk_ok 12 hg19 rfl want_none (by kernel_rfl) (by kernel_rfl) (by kernel_rfl) (fun w hk => r_assign (v := (.int .i64 (0))) rfl) (whk_done (by kernel_rfl) (then_normal (wc_ret (fin_ct (vs := [uq17x2_3, uq17x9_2]) (v2 := (.int .i64 (0))) Tryd.results18 rfl rfl h 7 rfl Many37 rfl ?_))))))
       replace h := h.freeze 32 rfl
       replace h := h.freeze 68 rfl
       obtain rfl := Option.some.inj hs
       exact ⟨h.grown, _, _, rfl, h.outRd 32 rfl, h.outRd 68 rfl⟩
      ·
       refine w_bsG (R := rByte) (vs := [(.int .u8 (10))]) (xs := [(10 : UInt8)]) h 104 ElemOf35 rfl rfl rfl ⟨rfl, trivial⟩ rfl fun w uq17x8_1 h uq17x8_1k uq17x8_1f => ?_
       have uq17x8_1q : ∀ b, ob uq17x8_1 b → ws18.heap.size ≤ b := fun b hb => Nat.le_trans hg19.size (uq17x8_1f b hb)
       replace hg19 := hg19.grow uq17x8_1k
       refine wl_nil (whk_back hg19 (whk_eff 7 (by kernel_rfl) rfl want_none ?_))
       have uq17x7_2z := hg19.size
       refine w_appSN h 68 rfl ElemOf35 One5 Tryd.underlying9 rfl rfl aq17x7_1.1 aq17x7_1.2 fun w uq17x7_2 h uq17x7_2k uq17x7_2n => ?_
       replace hg19 := hg19.freshK uq17x7_2k uq17x5_3q
       have uq17x7_2q := still_new uq17x7_2z uq17x5_3q uq17x7_2n
       refine wl_nil (whk_back hg19 (whk_eff 9 (by kernel_rfl) rfl want_none ?_))
       have uq17x9_2z := hg19.size
       refine w_appGN (R := rByte) (m := [(10 : UInt8)]) h 68 rfl (h.ownS 104 rfl) ElemOf35 rfl rfl rfl aq17x9_1.1 aq17x9_1.2 fun w uq17x9_2 h uq17x9_2k uq17x9_2n => ?_
       replace hg19 := hg19.freshK uq17x9_2k uq17x7_2q
       have uq17x9_2q := still_new uq17x9_2z uq17x7_2q uq17x9_2n
       refine wl_nil (whk_back hg19 (whk_ok 10 hg19 rfl want_none (by kernel_rfl) (by kernel_rfl) (by kernel_rfl) (fun w hk => r_build (pv := [(0, uq17x2_3), (1, uq17x9_2)]) (out := [uq17x2_3, uq17x9_2]) Struct37 rfl ⟨0, 1, [uq17x2_3], rfl, (toList_of_one (h.ownAt 32 rfl).one), rfl, Nat.le_of_ble_eq_true rfl, ⟨1, 1, [uq17x9_2], rfl, (toList_of_one (h.ownAt 68 rfl).one), rfl, Nat.le_of_ble_eq_true rfl, rfl⟩⟩) (whk_eff 11 (by kernel_rfl) rfl want_none (w_stNG (vs := [uq17x2_3, uq17x9_2]) h 7 [uq17x2_3, uq17x9_2] rfl Many37 rfl rfl rfl rfl rfl (ones_cons (h.ownAt 32 rfl).one (ones_cons (h.ownAt 68 rfl).one ones_nil)) fun w h kq17x11_1 => ?_))))
       replace hg19 := hg19.same kq17x11_1
       refine wl_nil (whk_back hg19 (whk_ok 12 hg19 rfl want_none (by kernel_rfl) (by kernel_rfl) (by kernel_rfl) (fun w hk => r_assign (v := (.int .i64 (0))) rfl) (whk_done (by kernel_rfl) (then_normal (wc_ret (fin_ct (vs := [uq17x2_3, uq17x9_2]) (v2 := (.int .i64 (0))) Tryd.results18 rfl rfl h 7 rfl Many37 rfl ?_))))))
       replace h := h.freeze 32 rfl
       replace h := h.freeze 68 rfl
       obtain rfl := Option.some.inj hs
       exact ⟨h.grown, _, _, rfl, h.outRd 32 rfl, h.outRd 68 rfl⟩
     ·
      refine w_bsG (R := rByte) (vs := [(.int .u8 (10))]) (xs := [(10 : UInt8)]) h 104 ElemOf35 rfl rfl rfl ⟨rfl, trivial⟩ rfl fun w uq17x8_1 h uq17x8_1k uq17x8_1f => ?_
      have uq17x8_1q : ∀ b, ob uq17x8_1 b → ws18.heap.size ≤ b := fun b hb => Nat.le_trans hg19.size (uq17x8_1f b hb)
      replace hg19 := hg19.grow uq17x8_1k
      refine wl_nil (whk_back hg19 (whk_eff 5 (by kernel_rfl) rfl want_none (w_call fnOk46 rfl rfl (slices_Clone_byte_c _ _ h.lt va1 a.wait (h.srS 2 rfl) _ eq17x5_2) ?_)))
      rintro _ w ⟨kq17x5_6, uq17x5_3, rfl, gq17x5_4, gq17x5_5⟩
      refine ⟨_, rfl, ?_⟩
      replace h := h.gotOwn 68 kq17x5_6 gq17x5_4 gq17x5_5
      have uq17x5_3q : ∀ b, ob uq17x5_3 b → ws18.heap.size ≤ b := fun b hb => Nat.le_trans hg19.size (gq17x5_5 b hb)
      replace hg19 := hg19.grow kq17x5_6
      refine wl_nil (whk_back hg19 (whk_eff 7 (by kernel_rfl) rfl want_none ?_))
      have uq17x7_2z := hg19.size
      refine w_appSN h 68 rfl ElemOf35 One5 Tryd.underlying9 rfl rfl aq17x7_1.1 aq17x7_1.2 fun w uq17x7_2 h uq17x7_2k uq17x7_2n => ?_
      replace hg19 := hg19.freshK uq17x7_2k uq17x5_3q
      have uq17x7_2q := still_new uq17x7_2z uq17x5_3q uq17x7_2n
      refine wl_nil (whk_back hg19 (whk_eff 9 (by kernel_rfl) rfl want_none ?_))
      have uq17x9_2z := hg19.size
      refine w_appGN (R := rByte) (m := [(10 : UInt8)]) h 68 rfl (h.ownS 104 rfl) ElemOf35 rfl rfl rfl aq17x9_1.1 aq17x9_1.2 fun w uq17x9_2 h uq17x9_2k uq17x9_2n => ?_
      replace hg19 := hg19.freshK uq17x9_2k uq17x7_2q
      have uq17x9_2q := still_new uq17x9_2z uq17x7_2q uq17x9_2n
      refine wl_nil (whk_back hg19 (whk_ok 10 hg19 rfl want_none (by kernel_rfl) (by kernel_rfl) (by kernel_rfl) (fun w hk => r_build (pv := [(0, uq17x2_3), (1, uq17x9_2)]) (out := [uq17x2_3, uq17x9_2]) Struct37 rfl ⟨0, 1, [uq17x2_3], rfl, (toList_of_one (h.ownAt 32 rfl).one), rfl, Nat.le_of_ble_eq_true rfl, ⟨1, 1, [uq17x9_2], rfl, (toList_of_one (h.ownAt 68 rfl).one), rfl, Nat.le_of_ble_eq_true rfl, rfl⟩⟩) (whk_eff 11 (by kernel_rfl) rfl want_none (w_stNG (vs := [uq17x2_3, uq17x9_2]) h 7 [uq17x2_3, uq17x9_2] rfl Many37 rfl rfl rfl rfl rfl (ones_cons (h.ownAt 32 rfl).one (ones_cons (h.ownAt 68 rfl).one ones_nil)) fun w h kq17x11_1 => ?_))))
      replace hg19 := hg19.same kq17x11_1
      refine wl_nil (whk_back hg19 (whk_ok 12 hg19 rfl want_none (by kernel_rfl) (by kernel_rfl) (by kernel_rfl) (fun w hk => r_assign (v := (.int .i64 (0))) rfl) (whk_done (by kernel_rfl) (then_normal (wc_ret (fin_ct (vs := [uq17x2_3, uq17x9_2]) (v2 := (.int .i64 (0))) Tryd.results18 rfl rfl h 7 rfl Many37 rfl ?_))))))
      replace h := h.freeze 32 rfl
      replace h := h.freeze 68 rfl
      obtain rfl := Option.some.inj hs
      exact ⟨h.grown, _, _, rfl, h.outRd 32 rfl, h.outRd 68 rfl⟩
    ·
     refine w_bsG (R := rByte) (vs := [(.int .u8 (10))]) (xs := [(10 : UInt8)]) h 104 ElemOf35 rfl rfl rfl ⟨rfl, trivial⟩ rfl fun w uq17x8_1 h uq17x8_1k uq17x8_1f => ?_
     have uq17x8_1q : ∀ b, ob uq17x8_1 b → ws18.heap.size ≤ b := fun b hb => Nat.le_trans hg19.size (uq17x8_1f b hb)
     replace hg19 := hg19.grow uq17x8_1k
     refine wl_nil (whk_back hg19 (whk_eff 2 (by kernel_rfl) rfl want_none (w_call fnOk46 rfl rfl (slices_Clone_byte_c _ _ h.lt va0 a.safe (h.srS 1 rfl) _ eq17x2_2) ?_)))
     rintro _ w ⟨kq17x2_6, uq17x2_3, rfl, gq17x2_4, gq17x2_5⟩
     refine ⟨_, rfl, ?_⟩
     replace h := h.gotOwn 32 kq17x2_6 gq17x2_4 gq17x2_5
     have uq17x2_3q : ∀ b, ob uq17x2_3 b → ws18.heap.size ≤ b := fun b hb => Nat.le_trans hg19.size (gq17x2_5 b hb)
     replace hg19 := hg19.grow kq17x2_6
     refine wl_nil (whk_back hg19 (whk_eff 5 (by kernel_rfl) rfl want_none (w_call fnOk46 rfl rfl (slices_Clone_byte_c _ _ h.lt va1 a.wait (h.srS 2 rfl) _ eq17x5_2) ?_)))
     rintro _ w ⟨kq17x5_6, uq17x5_3, rfl, gq17x5_4, gq17x5_5⟩
     refine ⟨_, rfl, ?_⟩
     replace h := h.gotOwn 68 kq17x5_6 gq17x5_4 gq17x5_5
     have uq17x5_3q : ∀ b, ob uq17x5_3 b → ws18.heap.size ≤ b := fun b hb => Nat.le_trans hg19.size (gq17x5_5 b hb)
     replace hg19 := hg19.grow kq17x5_6
     refine wl_nil (whk_back hg19 (whk_eff 7 (by kernel_rfl) rfl want_none ?_))
     have uq17x7_2z := hg19.size
     refine w_appSN h 68 rfl ElemOf35 One5 Tryd.underlying9 rfl rfl aq17x7_1.1 aq17x7_1.2 fun w uq17x7_2 h uq17x7_2k uq17x7_2n => ?_
     replace hg19 := hg19.freshK uq17x7_2k uq17x5_3q
     have uq17x7_2q := still_new uq17x7_2z uq17x5_3q uq17x7_2n
     refine wl_nil (whk_back hg19 (whk_eff 9 (by kernel_rfl) rfl want_none ?_))
     have uq17x9_2z := hg19.size
     refine w_appGN (R := rByte) (m := [(10 : UInt8)]) h 68 rfl (h.ownS 104 rfl) ElemOf35 rfl rfl rfl aq17x9_1.1 aq17x9_1.2 fun w uq17x9_2 h uq17x9_2k uq17x9_2n => ?_
     replace hg19 := hg19.freshK uq17x9_2k uq17x7_2q
     have uq17x9_2q := still_new uq17x9_2z uq17x7_2q uq17x9_2n
     refine wl_nil (whk_back hg19 (whk_ok 10 hg19 rfl want_none (by kernel_rfl) (by kernel_rfl) (by kernel_rfl) (fun w hk => r_build (pv := [(0, uq17x2_3), (1, uq17x9_2)]) (out := [uq17x2_3, uq17x9_2]) Struct37 rfl ⟨0, 1, [uq17x2_3], rfl, (toList_of_one (h.ownAt 32 rfl).one), rfl, Nat.le_of_ble_eq_true rfl, ⟨1, 1, [uq17x9_2], rfl, (toList_of_one (h.ownAt 68 rfl).one), rfl, Nat.le_of_ble_eq_true rfl, rfl⟩⟩) (whk_eff 11 (by kernel_rfl) rfl want_none (w_stNG (vs := [uq17x2_3, uq17x9_2]) h 7 [uq17x2_3, uq17x9_2] rfl Many37 rfl rfl rfl rfl rfl (ones_cons (h.ownAt 32 rfl).one (ones_cons (h.ownAt 68 rfl).one ones_nil)) fun w h kq17x11_1 => ?_))))
     replace hg19 := hg19.same kq17x11_1
     refine wl_nil (whk_back hg19 (whk_ok 12 hg19 rfl want_none (by kernel_rfl) (by kernel_rfl) (by kernel_rfl) (fun w hk => r_assign (v := (.int .i64 (0))) rfl) (whk_done (by kernel_rfl) (then_normal (wc_ret (fin_ct (vs := [uq17x2_3, uq17x9_2]) (v2 := (.int .i64 (0))) Tryd.results18 rfl rfl h 7 rfl Many37 rfl ?_))))))
     replace h := h.freeze 32 rfl
     replace h := h.freeze 68 rfl
     obtain rfl := Option.some.inj hs
     exact ⟨h.grown, _, _, rfl, h.outRd 32 rfl, h.outRd 68 rfl⟩
theorem slices_Grow_byte_c (w0 : World) (M : BS) (hM : ∀ b, M b → b < w0.heap.size) (a : Int) (r : List UInt8) (hs : growN 1 a = some r) :
    Calls Tryd.prog 71 #[.slice none 0 0, .int .i64 a] w0 (fun e w' => Grow w0 w' ∧ ∃ u, e = .returned u ∧ OwnSl rByte 5 w' M u r ∧ (∀ b, ob u b → w0.heap.size ≤ b)) := by
  obtain ⟨hr, hs⟩ := o_grd hs
  cases hs
  obtain ⟨k, rfl⟩ := Int.eq_ofNat_of_zero_le hr.1
  have hkb : k * 1 ≤ 140737488355328 := by omega
  refine calls_start (args := [.slice none 0 0, .int .i64 (k : Int)]) Tryd.func71 rfl Tryd.ntmps71 (Nat.le_of_ble_eq_true rfl) ?_
  refine wc_seq (wc_region (wl_ok (r_assign (v := .slice none 0 0) rfl) (wl_nil (then_normal ?_))))
  refine wc_seq (wc_seq (wc_region (wl_ok (r_move (v := .int .i64 (k : Int)) rfl) (wl_ok (r_lss (p := (k : Int)) (q := 0) rfl rfl) (wl_nil (then_normal ?_))))))
  refine wc_if rfl (fun c => absurd (of_decide_eq_true c) (by omega)) (fun _ => wc_skip (then_normal ?_))
  refine wc_seq (wc_seq (wc_region ?_))
  refine wl_ok (r_move (v := .int .i64 (k : Int)) rfl) (wl_ok (r_move (v := .slice none 0 0) rfl) (wl_ok (r_cap (a := none) (l := 0) (c := 0) SliceOf35 rfl) (wl_ok (r_move (v := .slice none 0 0) rfl) (wl_ok (r_len_slice (a := none) (l := 0) (c := 0) SliceOf35 rfl) (wl_ok (r_sub (p := 0) (q := 0) rfl rfl (by decide)) (wl_ok (r_sub (p := (k : Int)) (q := 0 - 0) rfl rfl (by omega)) (wl_ok (r_assign (v := .int .i64 ((k : Int) - (0 - 0))) rfl) (wl_nil (then_normal ?_)))))))))
  refine wc_seq (wc_region (wl_ok (r_move (v := .int .i64 ((k : Int) - (0 - 0))) rfl) (wl_ok (r_gtr (p := (k : Int) - (0 - 0)) (q := 0) rfl rfl) (wl_nil (then_normal ?_)))))
  refine wc_if rfl (fun c => ?_) (fun c => ?_)
  · have hk : 0 < k := by have := of_decide_eq_true c; omega
    refine wc_region ?_
    refine wl_ok (r_move (v := .slice none 0 0) rfl) (wl_ok (r_move (v := .slice none 0 0) rfl) (wl_ok (r_cap (a := none) (l := 0) (c := 0) SliceOf35 rfl) (wl_ok (r_sliceTo (b := 0) (ad := none) (len := 0) (cap := 0) SliceOf35 rfl (.inl rfl) (.inl ⟨rfl, rfl⟩) rfl (Nat.le_refl _)) (wl_ok (r_move (v := .int .i64 (k : Nat)) (congrArg (Value.int .i64) (by omega))) ?_))))
    refine wl_growNil (R := rByte) (A := M) (k := k) ElemOf35 rfl Tryd.underlying3 rfl rfl hk (by decide) hkb fun w gg cap hg h1 h2 h3 ho => ?_
    refine wl_ok (r_move (v := .slice none 0 0) rfl) (wl_ok (r_len_slice (a := none) (l := 0) (c := 0) SliceOf35 rfl) (wl_ok (r_sliceTo (b := 0) (ad := some ⟨gg, 0, none⟩) (len := k) (cap := cap) SliceOf35 rfl (.inr ⟨gg, rfl⟩) (.inl ⟨rfl, rfl⟩) rfl (Nat.zero_le _)) (wl_ok (r_assign (v := .slice (some ⟨gg, 0, none⟩) 0 cap) rfl) (wl_nil (then_normal ?_)))))
    refine wc_seq (wc_region (wl_ok (r_move (v := .slice (some ⟨gg, 0, none⟩) 0 cap) rfl) (wl_ok (r_assign (v := .slice (some ⟨gg, 0, none⟩) 0 cap) rfl) (wl_nil (then_normal (wc_ret ?_))))))
    exact fin1 (v := .slice (some ⟨gg, 0, none⟩) 0 cap) Tryd.results71 rfl ⟨hg, _, rfl, ho, fun b hb => by have : b = gg := hb; omega⟩
  · refine wc_skip (then_normal (wc_seq (wc_region (wl_ok (r_move (v := .slice none 0 0) rfl) (wl_ok (r_assign (v := .slice none 0 0) rfl) (wl_nil (then_normal (wc_ret ?_))))))))
    exact fin1 (v := .slice none 0 0) Tryd.results71 rfl ⟨Keep.refl _ _, _, rfl, OwnSl.nil, fresh_nil⟩
def slices_Concat_byte_b5 (x37 : List UInt8) (x34 : List UInt8) (nx39 : List UInt8 → Option (List UInt8)) : Option (List UInt8) :=
  grd (Room 1 x34 x37) (nx39 (x34 ++ x37))
def slices_Concat_byte_k6 (x34 : List UInt8) : Option (List UInt8) :=
  some x34
def slices_Concat_byte_b7 (x7 : List UInt8) (x4 : Int) (nx9 : Int → Option (List UInt8)) : Option (List UInt8) :=
  grd (I64 (x4 + (x7.length : Int))) (bif decide (((x4 + (x7.length : Int)) : Int) < 0) then none else nx9 (x4 + (x7.length : Int)))
def slices_Concat_byte_k8 (a : List (List UInt8)) (x4 : Int) : Option (List UInt8) :=
  (growN 1 x4).bind fun y21 => each slices_Concat_byte_b5 slices_Concat_byte_k6 a y21
def slices_Concat_byte (a : List (List UInt8)) : Option (List UInt8) :=
  each slices_Concat_byte_b7 (slices_Concat_byte_k8 a) a 0
theorem slices_Concat_byte_c (w0 : World) (M : BS) (hM : ∀ b, M b → b < w0.heap.size) (va : Value) (a : List (List UInt8)) (ha : Rd2 (rSl rByte) w0 BE M va a) (r : List UInt8) (hs : slices_Concat_byte a = some r) :
    Calls Tryd.prog 47 #[va] w0 (fun e w' => Grow w0 w' ∧ ∃ u0, e = .returned (u0) ∧ OwnSl rByte 5 w' M u0 r ∧ (∀ b, ob u0 b → w0.heap.size ≤ b)) := by
 refine calls_start (args := [va]) Tryd.func47 rfl Tryd.ntmps47 (Nat.le_of_ble_eq_true rfl) ?_
 have h := SH.init hM
 replace h := h.argSr 1 ha none_own
 have hl_a := ha.len_le
 refine wc_seq (wc_region (wl_ok (r_assign (v := (.slice none 0 0)) rfl) (wl_nil (then_normal (wc_seq (wc_region (wl_ok (r_assign (v := (.int .i64 (0))) rfl) (wl_nil (then_normal (wc_seq (wc_seq (wc_region (wl_ok (r_move (v := va) rfl) (wl_ok (r_len SliceOf107 rfl (h.srS 1 rfl)) (wl_ok (r_move (v := (.int .i64 (0))) rfl) (wl_nil (then_normal (wc_block (wc_lp (σ := Nat × Int × Int) (inl [3, 5, 11, 12, 13, 14, 15, 16, 17, 18, 19, 20, 21, 22]) (fun ⟨k5, i6, x4⟩ => [(3, (.int .i64 (x4))), (11, (.int .i64 (i6)))]) (fun ⟨k5, i6, x4⟩ w => SH w0 M BE w (hset [(1, .sr (rSl rByte) va a)]) ∧ i6 = (k5 : Int) ∧ each slices_Concat_byte_b7 (slices_Concat_byte_k8 a) (a.drop k5) x4 = some r) (fun ⟨k5, i6, x4⟩ => a.length - k5) ⟨0, 0, 0⟩ ⟨rfl, rfl, trivial⟩ ?_ ?_)))))))))))))))))))
 ·
  exact ⟨h.cn _, rfl, hs⟩
 ·
  rintro ⟨k5, i6, x4⟩ w junk ⟨h, hik, hs⟩
  refine wc_seq (wc_region ?_)
  refine wl_ok (r_lss rfl rfl) (wl_nil (then_normal ?_))
  refine wc_seq (wc_if rfl (fun e10 => ?_) (fun e10 => ?_))
  ·
   refine wc_skip (then_normal ?_)
   obtain ⟨x7, e11a, e11b⟩ := drop_lt (hik ▸ e10)
   rw [e11b, each_cons] at hs
   generalize hnx9 : each slices_Concat_byte_b7 (slices_Concat_byte_k8 a) (a.drop (k5 + 1)) = nx9 at hs
   have e11r := nat_rng ((h.srS 1 rfl)).len_le hik e10
   refine wc_seq (wc_block (wc_seq (wc_region ?_)))
   obtain ⟨b13, o14, cs15, h, r16, i12⟩ := h.ixS 1 2 rfl SliceOf107 rfl (nat_nn hik) (get_nat hik e11a)
   obtain ⟨u17, rfl, g18⟩ := r16
   replace h := h.knowRd 3 g18.up
   refine wl_ok (i12 _ _ _ _ _ _ _ _ _ rfl rfl) (wl_ok (r_ldP (k := 0) h 2 rfl One35 rfl rfl) (wl_ok (r_assign (v := u17) rfl) (wl_nil (then_normal (wc_seq (wc_region (wl_ok (r_move (v := (.int .i64 (x4))) rfl) (wl_ok (r_move (v := u17) rfl) (wl_ok (r_len SliceOf35 rfl (h.rdS 3 rfl)) ?_)))))))))
   obtain ⟨a19, hs⟩ := o_grd hs
   refine wl_ok (r_add rfl rfl a19) (wl_ok (r_assign (v := (.int .i64 ((x4 + (x7.length : Int))))) rfl) (wl_nil (then_normal (wc_seq (wc_region (wl_ok (r_move (v := (.int .i64 ((x4 + (x7.length : Int))))) rfl) (wl_ok (r_lss rfl rfl) (wl_nil (then_normal (wc_ifb hs rfl (fun c20 hs => ?_) (fun c20 hs => ?_)))))))))))
   ·
    cases hs
   ·
    refine wc_skip (inBlock_normal (then_normal (wc_region (wl_ok (r_add rfl rfl e11r) (wl_ok (r_move (v := (.int .i64 ((i6 + 1)))) rfl) (wl_nil (then_loop ?_)))))))
    subst hnx9
    exact lend ⟨k5 + 1, i6 + 1, (x4 + (x7.length : Int))⟩ ⟨h.cn _, by omega, hs⟩ (by have := of_decide_eq_true e10; dsimp only; omega)
  ·
   rw [drop_ge (hik ▸ e10), each_nil] at hs
   refine wc_exit (then_exit (then_exit (inBlock_eq (then_normal (wc_seq (wc_region (wl_ok (r_move (v := (.int .i64 (x4))) rfl) ?_)))))))
   obtain ⟨y21, e22, hs⟩ := o_bind hs
   refine w_call fnOk71 rfl rfl (slices_Grow_byte_c _ _ h.lt x4 _ e22) ?_
   rintro _ w ⟨k26, u23, rfl, g24, g25⟩
   refine ⟨_, rfl, ?_⟩
   replace h := h.gotOwn 4 k26 g24 g25
   refine wl_ok (r_assign (v := u23) rfl) (wl_nil (then_normal (wc_seq (wc_seq (wc_region (wl_ok (r_move (v := va) rfl) (wl_ok (r_len SliceOf107 rfl (h.srS 1 rfl)) (wl_ok (r_move (v := (.int .i64 (0))) rfl) (wl_nil (then_normal (wc_block (wc_lp (σ := Nat × Int × Value × List UInt8) (inl [6, 8, 27, 28, 29, 30, 31, 32, 33, 34]) (fun ⟨k35, i36, v33, x34⟩ => [(6, v33), (27, (.int .i64 (i36)))]) (fun ⟨k35, i36, v33, x34⟩ w => SH w0 M BE w (hset [(1, .sr (rSl rByte) va a), (4, .own rByte 5 v33 x34)]) ∧ i36 = (k35 : Int) ∧ each slices_Concat_byte_b5 slices_Concat_byte_k6 (a.drop k35) x34 = some r) (fun ⟨k35, i36, v33, x34⟩ => a.length - k35) ⟨0, 0, u23, y21⟩ ⟨rfl, rfl, trivial⟩ ?_ ?_))))))))))))
   ·
    exact ⟨h.cn _, rfl, hs⟩
   ·
    rintro ⟨k35, i36, v33, x34⟩ w junk ⟨h, hik, hs⟩
    refine wc_seq (wc_region ?_)
    refine wl_ok (r_lss rfl rfl) (wl_nil (then_normal ?_))
    refine wc_seq (wc_if rfl (fun e40 => ?_) (fun e40 => ?_))
    ·
     refine wc_skip (then_normal ?_)
     obtain ⟨x37, e41a, e41b⟩ := drop_lt (hik ▸ e40)
     rw [e41b, each_cons] at hs
     generalize hnx39 : each slices_Concat_byte_b5 slices_Concat_byte_k6 (a.drop (k35 + 1)) = nx39 at hs
     have e41r := nat_rng ((h.srS 1 rfl)).len_le hik e40
     refine wc_seq (wc_block (wc_seq (wc_region ?_)))
     obtain ⟨b43, o44, cs45, h, r46, i42⟩ := h.ixS 1 5 rfl SliceOf107 rfl (nat_nn hik) (get_nat hik e41a)
     obtain ⟨u47, rfl, g48⟩ := r46
     replace h := h.knowRd 6 g48.up
     refine wl_ok (i42 _ _ _ _ _ _ _ _ _ rfl rfl) (wl_ok (r_ldP (k := 0) h 5 rfl One35 rfl rfl) (wl_ok (r_assign (v := u47) rfl) (wl_nil (then_normal (wc_region (wl_ok (r_move (v := v33) rfl) (wl_ok (r_move (v := u47) rfl) ?_)))))))
     obtain ⟨a49, hs⟩ := o_grd hs
     refine w_app (R := rByte) (m := x37) h 4 rfl (h.rdS 6 rfl) ElemOf35 rfl rfl rfl a49.1 a49.2 fun w u50 h => wl_ok (r_assign (v := u50) rfl) (wl_nil (inBlock_normal (then_normal (wc_region (wl_ok (r_add rfl rfl e41r) (wl_ok (r_move (v := (.int .i64 ((i36 + 1)))) rfl) (wl_nil (then_loop ?_))))))))
     subst hnx39
     exact lend ⟨k35 + 1, i36 + 1, u50, (x34 ++ x37)⟩ ⟨h.cn _, by omega, hs⟩ (by have := of_decide_eq_true e40; dsimp only; omega)
    ·
     rw [drop_ge (hik ▸ e40), each_nil] at hs
     refine wc_exit (then_exit (then_exit (inBlock_eq (then_normal (wc_seq (wc_region (wl_ok (r_move (v := v33) rfl) (wl_ok (r_assign (v := v33) rfl) (wl_nil (then_normal (wc_ret (fin1 (v := v33) Tryd.results47 rfl ?_))))))))))))
     obtain rfl := Option.some.inj hs
     exact ⟨h.grown, _, rfl, (h.outOwn 4 rfl).1, (h.outOwn 4 rfl).2⟩
def disk_Sync (N : Nat) (a : Disk) : Option (Disk × Int) :=
  (disk_Check N a).bind fun y3 => bif decide ((y3 : Int) ≠ 0) then some ((⟨[], []⟩ : Disk), y3) else (slices_Concat_byte [a.safe, a.wait]).bind fun y8 => (disk_Check N (⟨y8, []⟩ : Disk)).bind fun y15 => bif decide ((y15 : Int) ≠ 0) then some ((⟨[], []⟩ : Disk), y15) else some ((⟨y8, []⟩ : Disk), 0)
theorem disk_Sync_c (N : Nat) (w0 : World) (M : BS) (hM : ∀ b, M b → b < w0.heap.size) (hT : Tabs Tryd.prog 3 w0) (a : Disk) (va0 va1 : Value) (ha0 : RdSl rByte w0 M va0 a.safe) (ha1 : RdSl rByte w0 M va1 a.wait) (r : Disk × Int) (hs : disk_Sync N a = some r) :
    Calls Tryd.prog 19 #[(.agg #[va0, va1])] w0 (fun e w' => Grow w0 w' ∧ ∃ u0_0, ∃ u0_1, e = .returned (.tuple #[.agg #[u0_0, u0_1], .int .i64 r.2]) ∧ RdSl rByte w' M u0_0 r.1.safe ∧ RdSl rByte w' M u0_1 r.1.wait) := by
 refine calls_start (args := [(.agg #[va0, va1])]) Tryd.func19 rfl Tryd.ntmps19 (Nat.le_of_ble_eq_true rfl) ?_
 have h := SH.init hM
 replace h := h.argRd 1 ha0 none_own
 replace h := h.argRd 2 ha1 (hupd_own_rd none_own)
 refine wc_seq (wc_region (w_box (cs := [va0, va1]) h 3 rfl rfl fun w b1 h => w_allocN h 4 Many37 fun w b2 h => wl_ok (r_assign (v := (.int .i64 (0))) rfl) (wl_nil (then_normal (wc_seq (wc_seq (wc_region (wl_ok (r_ldBN (vs := [va0, va1]) h 3 rfl Many37 rfl rfl rfl) ?_))))))))
 obtain ⟨y3, e4, hs⟩ := o_bind hs
 refine w_call fnOk27 rfl rfl (disk_Check_c N _ _ h.lt (hT.go h.keep) a va0 va1 (h.rdS 1 rfl) (h.rdS 2 rfl) _ e4) ?_
 rintro _ w ⟨k5, rfl⟩
 refine ⟨_, rfl, ?_⟩
 replace h := h.grow k5
 refine wl_ok (r_assign (v := (.int .i64 (y3))) rfl) (wl_nil (then_normal (wc_seq (wc_region (wl_ok (r_move (v := (.int .i64 (y3))) rfl) (wl_ok (r_neq rfl rfl) (wl_nil (then_normal (wc_ifb hs rfl (fun c6 hs => ?_) (fun c6 hs => ?_))))))))))
 ·
  refine wc_seq (wc_region (wl_ok (r_build (pv := []) (out := [(.slice none 0 0), (.slice none 0 0)]) Struct37 rfl rfl) (wl_ok (r_move (v := (.int .i64 (y3))) rfl) (w_stN (vs := [(.slice none 0 0), (.slice none 0 0)]) h 4 [(.slice none 0 0), (.slice none 0 0)] rfl Many37 rfl rfl rfl rfl rfl (ones_cons rfl (ones_cons rfl ones_nil)) fun w h => wl_ok (r_assign (v := (.int .i64 (y3))) rfl) (wl_nil (then_normal (wc_ret (then_ret (fin_ct (vs := [(.slice none 0 0), (.slice none 0 0)]) (v2 := (.int .i64 (y3))) Tryd.results19 rfl rfl h 4 rfl Many37 rfl ?_)))))))))
  obtain rfl := Option.some.inj hs
  exact ⟨h.grown, _, _, rfl, Rd2.nil, Rd2.nil⟩
 ·
  refine wc_skip (then_normal (wc_seq (wc_region (wl_ok (r_fieldAddr Fld37x0 rfl) (wl_ok (r_ldB h 3 rfl One35 rfl rfl) (wl_ok (r_fieldAddr Fld37x1 rfl) (wl_ok (r_ldB h 3 rfl One35 rfl rfl) (w_bs (R := (rSl rByte)) (vs := [va0, va1]) (xs := [a.safe, a.wait]) h 5 ElemOf107 rfl rfl rfl ⟨(h.rdAt 1 rfl).rdc, ⟨(h.rdAt 2 rfl).rdc, trivial⟩⟩ rfl fun w u7 h => ?_))))))))
  obtain ⟨y8, e9, hs⟩ := o_bind hs
  refine w_call fnOk47 rfl rfl (slices_Concat_byte_c _ _ h.lt u7 [a.safe, a.wait] (h.ownS 5 rfl) _ e9) ?_
  rintro _ w ⟨k13, u10, rfl, g11, g12⟩
  refine ⟨_, rfl, ?_⟩
  replace h := h.gotOwn 6 k13 g11 g12
  refine wl_ok (r_build (pv := [(0, u10)]) (out := [u10, (.slice none 0 0)]) Struct37 rfl ⟨0, 1, [u10], rfl, (toList_of_one (h.ownAt 6 rfl).one), rfl, Nat.le_of_ble_eq_true rfl, rfl⟩) (w_allocN h 7 Many37 fun w b14 h => w_stN (vs := [u10, (.slice none 0 0)]) h 7 [u10, (.slice none 0 0)] rfl Many37 rfl rfl rfl rfl rfl (ones_cons (h.ownAt 6 rfl).one (ones_cons rfl ones_nil)) fun w h => wl_nil (then_normal (wc_seq (wc_seq (wc_region (wl_ok (r_ldBN (vs := [u10, (.slice none 0 0)]) h 7 rfl Many37 rfl rfl rfl) ?_))))))
  obtain ⟨y15, e16, hs⟩ := o_bind hs
  refine w_call fnOk27 rfl rfl (disk_Check_c N _ _ h.lt (hT.go h.keep) (⟨y8, []⟩ : Disk) u10 (.slice none 0 0) (h.ownS 6 rfl) Rd2.nil _ e16) ?_
  rintro _ w ⟨k17, rfl⟩
  refine ⟨_, rfl, ?_⟩
  replace h := h.grow k17
  refine wl_ok (r_assign (v := (.int .i64 (y15))) rfl) (wl_nil (then_normal (wc_seq (wc_region (wl_ok (r_move (v := (.int .i64 (y15))) rfl) (wl_ok (r_neq rfl rfl) (wl_nil (then_normal (wc_ifb hs rfl (fun c18 hs => ?_) (fun c18 hs => ?_))))))))))
  ·
   refine wc_seq (wc_region (wl_ok (r_build (pv := []) (out := [(.slice none 0 0), (.slice none 0 0)]) Struct37 rfl rfl) (wl_ok (r_move (v := (.int .i64 (y15))) rfl) (w_stN (vs := [(.slice none 0 0), (.slice none 0 0)]) h 4 [(.slice none 0 0), (.slice none 0 0)] rfl Many37 rfl rfl rfl rfl rfl (ones_cons rfl (ones_cons rfl ones_nil)) fun w h => wl_ok (r_assign (v := (.int .i64 (y15))) rfl) (wl_nil (then_normal (wc_ret (then_ret (fin_ct (vs := [(.slice none 0 0), (.slice none 0 0)]) (v2 := (.int .i64 (y15))) Tryd.results19 rfl rfl h 4 rfl Many37 rfl ?_)))))))))
   obtain rfl := Option.some.inj hs
   exact ⟨h.grown, _, _, rfl, Rd2.nil, Rd2.nil⟩
  ·
   refine wc_skip (then_normal (wc_seq (wc_region (wl_ok (r_ldBN (vs := [u10, (.slice none 0 0)]) h 7 rfl Many37 rfl rfl rfl) (w_stN (vs := [u10, (.slice none 0 0)]) h 4 [u10, (.slice none 0 0)] rfl Many37 rfl rfl rfl rfl rfl (ones_cons (h.ownAt 6 rfl).one (ones_cons rfl ones_nil)) fun w h => wl_ok (r_assign (v := (.int .i64 (0))) rfl) (wl_nil (then_normal (wc_ret (fin_ct (vs := [u10, (.slice none 0 0)]) (v2 := (.int .i64 (0))) Tryd.results19 rfl rfl h 4 rfl Many37 rfl ?_)))))))))
   replace h := h.freeze 6 rfl
   obtain rfl := Option.some.inj hs
   exact ⟨h.grown, _, _, rfl, h.outRd 6 rfl, Rd2.nil⟩
def disk_Crash (N : Nat) (a : Disk) (b : Int) : Option (Disk × Int) :=
  (disk_Check N a).bind fun y3 => bif decide ((y3 : Int) ≠ 0) then some ((⟨[], []⟩ : Disk), y3) else bif (decide ((b : Int) < 0) || decide (((a.wait.length : Int) : Int) < b)) then some ((⟨[], []⟩ : Disk), 3) else (sub? a.wait 0 b).bind fun xq11x6_1 => (clone 1 a.safe).bind fun yq11x2_1 => (clone 1 xq11x6_1).bind fun yq11x7_1 => some ((⟨yq11x2_1, yq11x7_1⟩ : Disk), 0)
theorem disk_Crash_c (N : Nat) (w0 : World) (M : BS) (hM : ∀ b, M b → b < w0.heap.size) (hT : Tabs Tryd.prog 3 w0) (a : Disk) (va0 va1 : Value) (ha0 : Rd2 rByte w0 BE M va0 a.safe) (ha1 : Rd2 rByte w0 BE M va1 a.wait) (b : Int) (r : Disk × Int) (hs : disk_Crash N a b = some r) :
    Calls Tryd.prog 20 #[(.agg #[va0, va1]), (.int .i64 (b))] w0 (fun e w' => Grow w0 w' ∧ ∃ u0_0, ∃ u0_1, e = .returned (.tuple #[.agg #[u0_0, u0_1], .int .i64 r.2]) ∧ RdSl rByte w' M u0_0 r.1.safe ∧ RdSl rByte w' M u0_1 r.1.wait) := by
 refine calls_start (args := [(.agg #[va0, va1]), (.int .i64 (b))]) Tryd.func20 rfl Tryd.ntmps20 (Nat.le_of_ble_eq_true rfl) ?_
 have h := SH.init hM
 replace h := h.argSr 1 ha0 none_own
 replace h := h.argSr 2 ha1 (hupd_own_sr none_own)
 refine wc_seq (wc_region (w_box (cs := [va0, va1]) h 3 rfl rfl fun w b1 h => w_allocN h 4 Many37 fun w b2 h => wl_ok (r_assign (v := (.int .i64 (0))) rfl) (wl_nil (then_normal (wc_seq (wc_seq (wc_region (wl_ok (r_ldBN (vs := [va0, va1]) h 3 rfl Many37 rfl rfl rfl) ?_))))))))
 obtain ⟨y3, e4, hs⟩ := o_bind hs
 refine w_call fnOk27 rfl rfl (disk_Check_c N _ _ h.lt (hT.go h.keep) a va0 va1 (h.srS 1 rfl) (h.srS 2 rfl) _ e4) ?_
 rintro _ w ⟨k5, rfl⟩
 refine ⟨_, rfl, ?_⟩
 replace h := h.grow k5
 refine wl_ok (r_assign (v := (.int .i64 (y3))) rfl) (wl_nil (then_normal (wc_seq (wc_region (wl_ok (r_move (v := (.int .i64 (y3))) rfl) (wl_ok (r_neq rfl rfl) (wl_nil (then_normal (wc_ifb hs rfl (fun c6 hs => ?_) (fun c6 hs => ?_))))))))))
 ·
  refine wc_seq (wc_region (wl_ok (r_build (pv := []) (out := [(.slice none 0 0), (.slice none 0 0)]) Struct37 rfl rfl) (wl_ok (r_move (v := (.int .i64 (y3))) rfl) (w_stN (vs := [(.slice none 0 0), (.slice none 0 0)]) h 4 [(.slice none 0 0), (.slice none 0 0)] rfl Many37 rfl rfl rfl rfl rfl (ones_cons rfl (ones_cons rfl ones_nil)) fun w h => wl_ok (r_assign (v := (.int .i64 (y3))) rfl) (wl_nil (then_normal (wc_ret (then_ret (fin_ct (vs := [(.slice none 0 0), (.slice none 0 0)]) (v2 := (.int .i64 (y3))) Tryd.results20 rfl rfl h 4 rfl Many37 rfl ?_)))))))))
  obtain rfl := Option.some.inj hs
  exact ⟨h.grown, _, _, rfl, Rd2.nil, Rd2.nil⟩
 ·
  refine wc_skip (then_normal (wc_seq (wc_seq (wc_region (wl_ok (r_move (v := (.int .i64 (b))) rfl) (wl_ok (r_lss rfl rfl) (wl_ok (r_move (v := (.bool (decide ((b : Int) < 0)))) rfl) (wl_gd0 rfl rfl (fun q => r_move (v := (.int .i64 (b))) rfl) (wl_gd0 rfl rfl (fun q => r_fieldAddr Fld37x1 rfl) (wl_gd0 rfl rfl (fun q => r_ldB h 3 rfl One35 (gvt q) rfl) (wl_gd0 rfl rfl (fun q => r_len SliceOf35 (gvt q) (h.srS 2 rfl)) (wl_gd0 rfl rfl (fun q => r_gtr (gvt q) (gvt q)) (wl_ok (r_por rfl rfl evc) (wl_nil (then_normal (wc_ifb hs rfl (fun c7 hs => ?_) (fun c7 hs => ?_)))))))))))))))))
  ·
   refine wc_seq (wc_region (wl_ok (r_build (pv := []) (out := [(.slice none 0 0), (.slice none 0 0)]) Struct37 rfl rfl) (w_stN (vs := [(.slice none 0 0), (.slice none 0 0)]) h 4 [(.slice none 0 0), (.slice none 0 0)] rfl Many37 rfl rfl rfl rfl rfl (ones_cons rfl (ones_cons rfl ones_nil)) fun w h => wl_ok (r_assign (v := (.int .i64 (3))) rfl) (wl_nil (then_normal (wc_ret (then_ret (fin_ct (vs := [(.slice none 0 0), (.slice none 0 0)]) (v2 := (.int .i64 (3))) Tryd.results20 rfl rfl h 4 rfl Many37 rfl ?_))))))))
   obtain rfl := Option.some.inj hs
   exact ⟨h.grown, _, _, rfl, Rd2.nil, Rd2.nil⟩
  ·
   refine wc_skip (then_normal (wc_seq (wck_held (L := (fun x => x = b2)) mixed h fun w h => whk_ok 0 (Keep.refl _ _) rfl want_none (by kernel_rfl) (by kernel_rfl) (by kernel_rfl) (fun w hk => r_fieldAddr Fld37x0 rfl) (whk_ok 1 (Keep.refl _ _) rfl want_none (by kernel_rfl) (by kernel_rfl) (by kernel_rfl) (fun w hk => have h := h.loseC 4 rfl hk; r_ldB h 3 rfl One35 rfl rfl) (whk_ok 3 (Keep.refl _ _) rfl want_none (by kernel_rfl) (by kernel_rfl) (by kernel_rfl) (fun w hk => r_fieldAddr Fld37x1 rfl) (whk_ok 4 (Keep.refl _ _) rfl want_none (by kernel_rfl) (by kernel_rfl) (by kernel_rfl) (fun w hk => have h := h.loseC 4 rfl hk; r_ldB h 3 rfl One35 rfl rfl) (whk_ok 5 (Keep.refl _ _) rfl want_none (by kernel_rfl) (by kernel_rfl) (by kernel_rfl) (fun w hk => r_move (v := (.int .i64 (b))) rfl) ?_)))))))
   obtain ⟨xq11x6_1, eq11x6_2, hs⟩ := o_bind hs
   obtain ⟨eq11x6_5, eq11x6_5a, eq11x6_5b, eq11x6_5c⟩ := o_sub eq11x6_2
   obtain ⟨uq11x6_3, h, iq11x6_4⟩ := h.slS 2 77 rfl SliceOf35 rfl eq11x6_5a eq11x6_5b eq11x6_5c
   rw [← eq11x6_5] at h
   refine whk_ok 6 (Keep.refl _ _) rfl want_none (by kernel_rfl) (by kernel_rfl) (by kernel_rfl) (fun w hk => iq11x6_4 _ _ _ _ _ _ _ _ _ _ rfl (.inl ⟨rfl, rfl⟩) (.inr (congrArg some rfl))) ?_
   obtain ⟨ws12, ws12e⟩ : ∃ x, x = w := ⟨_, rfl⟩
   have hg13 : Keep (fun x => x = b2) ws12 w := ws12e ▸ Keep.refl (fun x => x = b2) w
   refine whk_at ws12e.symm (whk_eff 2 (by kernel_rfl) rfl want_none ?_)
   obtain ⟨yq11x2_1, eq11x2_2, hs⟩ := o_bind hs
   refine w_call fnOk46 rfl rfl (slices_Clone_byte_c _ _ h.lt va0 a.safe (h.srS 1 rfl) _ eq11x2_2) ?_
   rintro _ w ⟨kq11x2_6, uq11x2_3, rfl, gq11x2_4, gq11x2_5⟩
   refine ⟨_, rfl, ?_⟩
   replace h := h.gotOwn 29 kq11x2_6 gq11x2_4 gq11x2_5
   have uq11x2_3q : ∀ b, ob uq11x2_3 b → ws12.heap.size ≤ b := fun b hb => Nat.le_trans hg13.size (gq11x2_5 b hb)
   replace hg13 := hg13.grow kq11x2_6
   refine wl_nil (whk_back hg13 (whk_eff 7 (by kernel_rfl) rfl want_none ?_))
   obtain ⟨yq11x7_1, eq11x7_2, hs⟩ := o_bind hs
   refine w_call fnOk46 rfl rfl (slices_Clone_byte_c _ _ h.lt uq11x6_3 xq11x6_1 (h.srS 77 rfl) _ eq11x7_2) ?_
   rintro _ w ⟨kq11x7_6, uq11x7_3, rfl, gq11x7_4, gq11x7_5⟩
   refine ⟨_, rfl, ?_⟩
   replace h := h.gotOwn 89 kq11x7_6 gq11x7_4 gq11x7_5
   have uq11x7_3q : ∀ b, ob uq11x7_3 b → ws12.heap.size ≤ b := fun b hb => Nat.le_trans hg13.size (gq11x7_5 b hb)
   replace hg13 := hg13.grow kq11x7_6
   refine wl_nil (whk_back hg13 (whk_ok 8 hg13 rfl want_none (by kernel_rfl) (by kernel_rfl) (by kernel_rfl) (fun w hk => r_build (pv := [(0, uq11x2_3), (1, uq11x7_3)]) (out := [uq11x2_3, uq11x7_3]) Struct37 rfl ⟨0, 1, [uq11x2_3], rfl, (toList_of_one (h.ownAt 29 rfl).one), rfl, Nat.le_of_ble_eq_true rfl, ⟨1, 1, [uq11x7_3], rfl, (toList_of_one (h.ownAt 89 rfl).one), rfl, Nat.le_of_ble_eq_true rfl, rfl⟩⟩) (whk_eff 9 (by kernel_rfl) rfl want_none (w_stNG (vs := [uq11x2_3, uq11x7_3]) h 4 [uq11x2_3, uq11x7_3] rfl Many37 rfl rfl rfl rfl rfl (ones_cons (h.ownAt 29 rfl).one (ones_cons (h.ownAt 89 rfl).one ones_nil)) fun w h kq11x9_1 => ?_))))
   replace hg13 := hg13.same kq11x9_1
   refine wl_nil (whk_back hg13 (whk_ok 10 hg13 rfl want_none (by kernel_rfl) (by kernel_rfl) (by kernel_rfl) (fun w hk => r_assign (v := (.int .i64 (0))) rfl) (whk_done (by kernel_rfl) (then_normal (wc_ret (fin_ct (vs := [uq11x2_3, uq11x7_3]) (v2 := (.int .i64 (0))) Tryd.results20 rfl rfl h 4 rfl Many37 rfl ?_))))))
   replace h := h.freeze 29 rfl
   replace h := h.freeze 89 rfl
   obtain rfl := Option.some.inj hs
   exact ⟨h.grown, _, _, rfl, h.outRd 29 rfl, h.outRd 89 rfl⟩
def disk_Recover (N : Nat) (a : Disk) : Option (Disk × List Rec × Int) :=
  (disk_Check N a).bind fun y3 => bif decide ((y3 : Int) ≠ 0) then some ((⟨[], []⟩ : Disk), [], y3) else (disk_lines N a.safe 120).bind fun y7 => grd (I64 (120 - (y7.1.length : Int))) ((disk_lines N a.wait (120 - (y7.1.length : Int))).bind fun y14 => (sub? a.wait 0 y14.2.1).bind fun xq26x5_1 => (slices_Concat_byte [a.safe, xq26x5_1]).bind fun yq26x7_1 => grd (Room 80 y7.1 y14.1) (some ((⟨yq26x7_1, []⟩ : Disk), (y7.1 ++ y14.1), 0)))
theorem disk_Recover_c (N : Nat) (w0 : World) (M : BS) (hM : ∀ b, M b → b < w0.heap.size) (hT : Tabs Tryd.prog 3 w0) (a : Disk) (va0 va1 : Value) (ha0 : RdSl rByte w0 M va0 a.safe) (ha1 : RdSl rByte w0 M va1 a.wait) (r : Disk × List Rec × Int) (hs : disk_Recover N a = some r) :
    Calls Tryd.prog 22 #[(.agg #[va0, va1])] w0 (fun e w' => Grow w0 w' ∧ ∃ u0_0, ∃ u0_1, ∃ u1, e = .returned (.tuple #[.agg #[u0_0, u0_1], u1, .int .i64 r.2.2]) ∧ RdSl rByte w' (fun b => M b ∨ ob u1 b) u0_0 r.1.safe ∧ RdSl rByte w' (fun b => M b ∨ ob u1 b) u0_1 r.1.wait ∧ OwnSl rRec 24 w' M u1 r.2.1 ∧ (∀ b, ob u1 b → w0.heap.size ≤ b)) := by
 refine calls_start (args := [(.agg #[va0, va1])]) Tryd.func22 rfl Tryd.ntmps22 (Nat.le_of_ble_eq_true rfl) ?_
 have h := SH.init hM
 replace h := h.argRd 1 ha0 none_own
 replace h := h.argRd 2 ha1 (hupd_own_rd none_own)
 refine wc_seq (wc_region (w_box (cs := [va0, va1]) h 3 rfl rfl fun w b1 h => w_allocN h 4 Many37 fun w b2 h => wl_ok (r_assign (v := (.slice none 0 0)) rfl) (wl_ok (r_assign (v := (.int .i64 (0))) rfl) (wl_nil (then_normal (wc_seq (wc_seq (wc_region (wl_ok (r_ldBN (vs := [va0, va1]) h 3 rfl Many37 rfl rfl rfl) ?_)))))))))
 obtain ⟨y3, e4, hs⟩ := o_bind hs
 refine w_call fnOk27 rfl rfl (disk_Check_c N _ _ h.lt (hT.go h.keep) a va0 va1 (h.rdS 1 rfl) (h.rdS 2 rfl) _ e4) ?_
 rintro _ w ⟨k5, rfl⟩
 refine ⟨_, rfl, ?_⟩
 replace h := h.grow k5
 refine wl_ok (r_assign (v := (.int .i64 (y3))) rfl) (wl_nil (then_normal (wc_seq (wc_region (wl_ok (r_move (v := (.int .i64 (y3))) rfl) (wl_ok (r_neq rfl rfl) (wl_nil (then_normal (wc_ifb hs rfl (fun c6 hs => ?_) (fun c6 hs => ?_))))))))))
 ·
  refine wc_seq (wc_region (wl_ok (r_build (pv := []) (out := [(.slice none 0 0), (.slice none 0 0)]) Struct37 rfl rfl) (wl_ok (r_move (v := (.int .i64 (y3))) rfl) (w_stN (vs := [(.slice none 0 0), (.slice none 0 0)]) h 4 [(.slice none 0 0), (.slice none 0 0)] rfl Many37 rfl rfl rfl rfl rfl (ones_cons rfl (ones_cons rfl ones_nil)) fun w h => wl_ok (r_assign (v := (.slice none 0 0)) rfl) (wl_ok (r_assign (v := (.int .i64 (y3))) rfl) (wl_nil (then_normal (wc_ret (then_ret (fin_ctt (vs := [(.slice none 0 0), (.slice none 0 0)]) (v2 := (.slice none 0 0)) (v3 := (.int .i64 (y3))) Tryd.results22 rfl rfl rfl h 4 rfl Many37 rfl ?_))))))))))
  obtain rfl := Option.some.inj hs
  exact ⟨h.grown, _, _, _, rfl, Rd2.nil, Rd2.nil, OwnSl.nil, fresh_nil⟩
 ·
  refine wc_skip (then_normal (wc_seq (wc_region (wl_ok (r_fieldAddr Fld37x0 rfl) (wl_ok (r_ldB h 3 rfl One35 rfl rfl) (wl_ok (r_b2s Tryd.underlying35 Tryd.underlying5 Tryd.underlying9 rfl (h.rdS 1 rfl)) ?_))))))
  obtain ⟨y7, e8, hs⟩ := o_bind hs
  refine w_call fnOk48 rfl rfl (disk_lines_c N _ _ h.lt (hT.go h.keep) a.safe 120 _ e8) ?_
  rintro _ w ⟨k12, u9, rfl, g10, g11⟩
  refine ⟨_, rfl, ?_⟩
  replace h := h.gotOwn 5 k12 g10 g11
  refine wl_ok (r_move (v := (.tuple #[u9, (.int .i64 (y7.2.1)), (.int .i64 (y7.2.2))])) rfl) (wl_ok (r_extract rfl rfl) (wl_ok (r_extract rfl rfl) (wl_ok (r_extract rfl rfl) (wl_ok (r_assign (v := u9) rfl) (wl_ok (r_assign (v := (.int .i64 (y7.2.1))) rfl) (wl_ok (r_assign (v := (.int .i64 (y7.2.2))) rfl) (wl_nil (then_normal (wc_seq (wc_region (wl_ok (r_fieldAddr Fld37x1 rfl) (wl_ok (r_ldB h 3 rfl One35 rfl rfl) (wl_ok (r_b2s Tryd.underlying35 Tryd.underlying5 Tryd.underlying9 rfl (h.rdS 2 rfl)) (wl_ok (r_move (v := u9) rfl) (wl_ok (r_len SliceOf34 rfl (h.ownS 5 rfl)) ?_)))))))))))))))
  obtain ⟨a13, hs⟩ := o_grd hs
  refine wl_ok (r_sub rfl rfl a13) ?_
  obtain ⟨y14, e15, hs⟩ := o_bind hs
  refine w_call fnOk48 rfl rfl (disk_lines_c N _ _ h.lt (hT.go h.keep) a.wait (120 - (y7.1.length : Int)) _ e15) ?_
  rintro _ w ⟨k19, u16, rfl, g17, g18⟩
  refine ⟨_, rfl, ?_⟩
  replace h := h.gotOwn 6 k19 g17 g18
  refine wl_ok (r_move (v := (.tuple #[u16, (.int .i64 (y14.2.1)), (.int .i64 (y14.2.2))])) rfl) (wl_ok (r_extract rfl rfl) (wl_ok (r_extract rfl rfl) (wl_ok (r_extract rfl rfl) (wl_ok (r_assign (v := u16) rfl) (wl_ok (r_assign (v := (.int .i64 (y14.2.1))) rfl) (wl_ok (r_assign (v := (.int .i64 (y14.2.2))) rfl) (wl_nil (then_normal (wc_seq (wck_held (L := (fun b => ob u9 b ∨ b = b2)) mixed h fun w h => whk_ok 0 (Keep.refl _ _) rfl want_none (by kernel_rfl) (by kernel_rfl) (by kernel_rfl) (fun w hk => r_fieldAddr Fld37x0 rfl) (whk_ok 1 (Keep.refl _ _) rfl want_none (by kernel_rfl) (by kernel_rfl) (by kernel_rfl) (fun w hk => have h := h.loseC2 5 4 (by decide) rfl rfl hk; r_ldB h 3 rfl One35 rfl rfl) (whk_ok 2 (Keep.refl _ _) rfl want_none (by kernel_rfl) (by kernel_rfl) (by kernel_rfl) (fun w hk => r_fieldAddr Fld37x1 rfl) (whk_ok 3 (Keep.refl _ _) rfl want_none (by kernel_rfl) (by kernel_rfl) (by kernel_rfl) (fun w hk => have h := h.loseC2 5 4 (by decide) rfl rfl hk; r_ldB h 3 rfl One35 rfl rfl) (whk_ok 4 (Keep.refl _ _) rfl want_none (by kernel_rfl) (by kernel_rfl) (by kernel_rfl) (fun w hk => r_move (v := (.int .i64 (y14.2.1))) rfl) ?_))))))))))))))
  obtain ⟨xq26x5_1, eq26x5_2, hs⟩ := o_bind hs
  obtain ⟨eq26x5_5, eq26x5_5a, eq26x5_5b, eq26x5_5c⟩ := o_sub eq26x5_2
  obtain ⟨uq26x5_3, h, iq26x5_4⟩ := h.slR 2 67 rfl SliceOf35 rfl eq26x5_5a eq26x5_5b eq26x5_5c
  rw [← eq26x5_5] at h
  refine whk_ok 5 (Keep.refl _ _) rfl want_none (by kernel_rfl) (by kernel_rfl) (by kernel_rfl) (fun w hk => iq26x5_4 _ _ _ _ _ _ _ _ _ _ rfl (.inl ⟨rfl, rfl⟩) (.inr (congrArg some rfl))) (whk_ok 9 (Keep.refl _ _) rfl want_none (by kernel_rfl) (by kernel_rfl) (by kernel_rfl) (fun w hk => r_move (v := u9) rfl) (whk_ok 10 (Keep.refl _ _) rfl want_none (by kernel_rfl) (by kernel_rfl) (by kernel_rfl) (fun w hk => r_move (v := u16) rfl) ?_))
  obtain ⟨ws27, ws27e⟩ : ∃ x, x = w := ⟨_, rfl⟩
  have hg28 : Keep (fun b => ob u9 b ∨ b = b2) ws27 w := ws27e ▸ Keep.refl (fun b => ob u9 b ∨ b = b2) w
  refine whk_at ws27e.symm (whk_eff 6 (by kernel_rfl) rfl want_none (w_bsG (R := (rSl rByte)) (vs := [va0, uq26x5_3]) (xs := [a.safe, xq26x5_1]) h 79 ElemOf107 rfl rfl rfl ⟨(h.rdAt 1 rfl).rdc, ⟨(h.rdAt 67 rfl).rdc, trivial⟩⟩ rfl fun w uq26x6_1 h uq26x6_1k uq26x6_1f => ?_))
  have uq26x6_1q : ∀ b, ob uq26x6_1 b → ws27.heap.size ≤ b := fun b hb => Nat.le_trans hg28.size (uq26x6_1f b hb)
  replace hg28 := hg28.grow uq26x6_1k
  refine wl_nil (whk_back hg28 (whk_eff 7 (by kernel_rfl) rfl want_none ?_))
  obtain ⟨yq26x7_1, eq26x7_2, hs⟩ := o_bind hs
  refine w_call fnOk47 rfl rfl (slices_Concat_byte_c _ _ h.lt uq26x6_1 [a.safe, xq26x5_1] (h.ownS 79 rfl) _ eq26x7_2) ?_
  rintro _ w ⟨kq26x7_6, uq26x7_3, rfl, gq26x7_4, gq26x7_5⟩
  refine ⟨_, rfl, ?_⟩
  replace h := h.gotOwn 91 kq26x7_6 gq26x7_4 gq26x7_5
  have uq26x7_3q : ∀ b, ob uq26x7_3 b → ws27.heap.size ≤ b := fun b hb => Nat.le_trans hg28.size (gq26x7_5 b hb)
  replace hg28 := hg28.grow kq26x7_6
  refine wl_nil (whk_back hg28 (whk_ok 8 hg28 rfl want_none (by kernel_rfl) (by kernel_rfl) (by kernel_rfl) (fun w hk => r_build (pv := [(0, uq26x7_3)]) (out := [uq26x7_3, (.slice none 0 0)]) Struct37 rfl ⟨0, 1, [uq26x7_3], rfl, (toList_of_one (h.ownAt 91 rfl).one), rfl, Nat.le_of_ble_eq_true rfl, rfl⟩) (whk_eff 11 (by kernel_rfl) rfl want_none ?_)))
  obtain ⟨aq26x11_1, hs⟩ := o_grd hs
  have uq26x11_2z := hg28.size
  refine w_appGN (R := rRec) (m := y14.1) h 5 rfl (h.ownS 6 rfl) ElemOf34 rfl rfl rfl aq26x11_1.1 aq26x11_1.2 fun w uq26x11_2 h uq26x11_2k uq26x11_2n => ?_
  replace hg28 := Keep.step hg28 uq26x11_2k (fun _ hx _ => .inl hx)
  refine wl_nil (whk_back hg28 (whk_eff 12 (by kernel_rfl) rfl want_none (w_stNG (vs := [uq26x7_3, (.slice none 0 0)]) h 4 [uq26x7_3, (.slice none 0 0)] rfl Many37 rfl rfl rfl rfl rfl (ones_cons (h.ownAt 91 rfl).one (ones_cons rfl ones_nil)) fun w h kq26x12_1 => ?_)))
  replace hg28 := Keep.step hg28 kq26x12_1 (fun _ hx _ => .inr hx)
  refine wl_nil (whk_back hg28 (whk_ok 13 hg28 rfl want_none (by kernel_rfl) (by kernel_rfl) (by kernel_rfl) (fun w hk => r_assign (v := uq26x11_2) rfl) (whk_ok 14 hg28 rfl want_none (by kernel_rfl) (by kernel_rfl) (by kernel_rfl) (fun w hk => r_assign (v := (.int .i64 (0))) rfl) (whk_done (by kernel_rfl) (then_normal (wc_ret (fin_ctt (vs := [uq26x7_3, (.slice none 0 0)]) (v2 := uq26x11_2) (v3 := (.int .i64 (0))) Tryd.results22 rfl rfl rfl h 4 rfl Many37 rfl ?_)))))))
  replace h := h.freeze 91 rfl
  obtain rfl := Option.some.inj hs
  exact ⟨h.grown, _, _, _, rfl, h.outRdO 91 5 rfl rfl, Rd2.nil, (h.outOwn 5 rfl).1, (h.outOwn 5 rfl).2⟩
theorem strings_SplitAfter_c (w0 : World) (M : BS) (hM : ∀ b, M b → b < w0.heap.size) (hT : Tabs Tryd.prog 3 w0) (a : Str) (b : Str) (r : List Str) (hs : splitAfterS a b = some r) :
    Calls Tryd.prog 73 #[strV a, strV b] w0 (fun e w' => Grow w0 w' ∧ ∃ u, e = .returned u ∧ RdSl rStr w' M u r) :=
  by
  refine calls_start (args := [strV a, strV b]) Tryd.func73 rfl Tryd.ntmps73 (Nat.le_of_ble_eq_true rfl) ?_
  refine wc_seq (wc_region (wl_ok (r_assign (v := .slice none 0 0) rfl) (wl_nil (then_normal ?_))))
  refine wc_seq (wc_region (wl_ok (r_move (v := strV a) rfl) (wl_ok (r_move (v := strV b) rfl) (wl_ok (r_move (v := strV b) rfl) (wl_ok (r_lenS (s := b) Tryd.underlying9 rfl) ?_)))))
  refine w_call fnOk64 rfl rfl (genSplit_w Tryd.strings_genSplit hM hT hs) ?_
  rintro _ w ⟨k, u, rfl, hu⟩
  refine ⟨_, rfl, ?_⟩
  refine wl_ok (r_assign (v := u) rfl) (wl_nil (then_normal (wc_ret ?_)))
  exact fin1 (v := u) Tryd.results73 rfl ⟨k, u, rfl, hu⟩
theorem strings_HasSuffix_c (w0 : World) (M : BS) (hM : ∀ b, M b → b < w0.heap.size) (a : Str) (b : Str) (r : Bool) (hs : hasSufS a b = some r) :
    Calls Tryd.prog 74 #[strV a, strV b] w0 (fun e w' => Grow w0 w' ∧ e = .returned (.bool r)) :=
  hasSuf_w Tryd.strings_HasSuffix hs
def wandererref_linesOf_j9 (x2 : List Rec) (x3 : Int) : Option (List Rec × Int × Int) :=
  some (x2, x3, 0)
def wandererref_linesOf_j15 (x19 : List Rec) (x20 : Int) (y42 : Rec × Int) (x23 : Str) (nx25 : (List Rec × Int) → Option (List Rec × Int × Int)) (x50 : Int) : Option (List Rec × Int × Int) :=
  bif decide ((x50 : Int) ≠ 0) then some (x19, x20, x50) else grd (Room 80 x19 [y42.1]) (grd (I64 (x20 + (x23.length : Int))) (nx25 ((x19 ++ [y42.1]), (x20 + (x23.length : Int)))))
def wandererref_linesOf_b16 (b : Int) (x23 : Str) (s : List Rec × Int) (nx25 : List Rec × Int → Option (List Rec × Int × Int)) : Option (List Rec × Int × Int) :=
  match s with | (x19, x20) => bif decide ((x23 : Str) = []) then wandererref_linesOf_j9 x19 x20 else (hasSufS x23 [10]).bind fun y34 => bif (!y34) then some (x19, x20, 8) else grd (I64 ((x23.length : Int) - 1)) ((subs? x23 0 ((x23.length : Int) - 1)).bind fun x39 => (wandererref_RecRead x39).bind fun y42 => bif (decide ((y42.2 : Int) = 0) && decide ((b : Int) ≤ (x19.length : Int))) then wandererref_linesOf_j15 x19 x20 y42 x23 nx25 2 else wandererref_linesOf_j15 x19 x20 y42 x23 nx25 y42.2)
def wandererref_linesOf_k17 (s : List Rec × Int) : Option (List Rec × Int × Int) :=
  match s with | (x19, x20) => wandererref_linesOf_j9 x19 x20
def wandererref_linesOf (a : Str) (b : Int) : Option (List Rec × Int × Int) :=
  (splitAfterS a [10]).bind fun y4 => each (wandererref_linesOf_b16 b) wandererref_linesOf_k17 y4 ([], 0)
theorem wandererref_linesOf_c (w0 : World) (M : BS) (hM : ∀ b, M b → b < w0.heap.size) (hT : Tabs Tryd.prog 3 w0) (a : Str) (b : Int) (r : List Rec × Int × Int) (hs : wandererref_linesOf a b = some r) :
    Calls Tryd.prog 51 #[(strV a), (.int .i64 (b))] w0 (fun e w' => Grow w0 w' ∧ ∃ u0, e = .returned (.tuple #[u0, .int .i64 r.2.1, .int .i64 r.2.2]) ∧ OwnSl rRec 24 w' M u0 r.1 ∧ (∀ b, ob u0 b → w0.heap.size ≤ b)) := by
 refine calls_start (args := [(strV a), (.int .i64 (b))]) Tryd.func51 rfl Tryd.ntmps51 (Nat.le_of_ble_eq_true rfl) ?_
 have h := SH.init hM
 refine wc_seq (wc_region (wl_ok (r_assign (v := (.slice none 0 0)) rfl) (wl_ok (r_assign (v := (.int .i64 (0))) rfl) (wl_ok (r_assign (v := (.int .i64 (0))) rfl) (wl_nil (then_normal (wc_seq (wc_region (wl_ok (r_assign (v := (.slice none 0 0)) rfl) (wl_nil (then_normal (wc_seq (wc_region (wl_ok (r_assign (v := (.int .i64 (0))) rfl) (wl_nil (then_normal (wc_join (σ := Value × List Rec × Int) (inl [4, 5, 6, 7, 8, 10, 11, 12, 13, 14, 15, 16, 17, 18, 19, 20, 21, 22, 23, 24, 25, 26, 27, 28, 29, 30, 31, 32, 33, 34, 35, 36, 37, 38, 39, 40, 41, 42, 43, 44, 45, 46, 47, 48, 49, 50, 51, 52, 53, 54, 55, 56, 57]) (fun ⟨v1, x2, x3⟩ => [(7, v1), (8, (.int .i64 (x3)))]) (fun ⟨v1, x2, x3⟩ w => SH w0 M BE w (hset [(5, .own rRec 24 v1 x2)]) ∧ wandererref_linesOf_j9 x2 x3 = some r) ?_ ?_)))))))))))))))))
 ·
  rintro ⟨v1, x2, x3⟩ w junk ⟨h, hs⟩
  refine wc_seq (wc_region (wl_ok (r_move (v := v1) rfl) (wl_ok (r_move (v := (.int .i64 (x3))) rfl) (wl_ok (r_assign (v := v1) rfl) (wl_ok (r_assign (v := (.int .i64 (x3))) rfl) (wl_ok (r_assign (v := (.int .i64 (0))) rfl) (wl_nil (then_normal (wc_ret (fin3 (v1 := v1) (v2 := (.int .i64 (x3))) (v3 := (.int .i64 (0))) Tryd.results51 rfl rfl rfl ?_))))))))))
  obtain rfl := Option.some.inj hs
  exact ⟨h.grown, _, rfl, (h.outOwn 5 rfl).1, (h.outOwn 5 rfl).2⟩
 ·
  refine wc_seq (wc_region (wl_ok (r_move (v := (strV a)) rfl) ?_))
  obtain ⟨y4, e5, hs⟩ := o_bind hs
  refine w_call fnOk73 rfl rfl (strings_SplitAfter_c _ _ h.lt (hT.go h.keep) a [10] _ e5) ?_
  rintro _ w ⟨k8, u6, rfl, g7⟩
  refine ⟨_, rfl, ?_⟩
  replace h := h.gotRd 1 k8 g7
  refine wl_ok (r_len SliceOf61 rfl (h.rdS 1 rfl)) (wl_ok (r_move (v := (.int .i64 (0))) rfl) (wl_nil (then_normal (wc_block ?_))))
  replace h := h.nilO (R := rRec) (E := 24) 5
  refine wc_lp (σ := Nat × Int × Value × List Rec × Int) (inl [4, 5, 6, 7, 8, 10, 11, 12, 16, 17, 18, 19, 20, 21, 22, 23, 24, 25, 26, 27, 28, 29, 30, 31, 32, 33, 34, 35, 36, 37, 38, 39, 40, 41, 42, 43, 44, 45, 46, 47, 48, 49, 50, 51, 52, 53, 54, 55, 56, 57]) (fun ⟨k21, i22, v18, x19, x20⟩ => [(7, v18), (8, (.int .i64 (x20))), (16, (.int .i64 (i22)))]) (fun ⟨k21, i22, v18, x19, x20⟩ w => SH w0 M BE w (hset [(1, .rd rStr u6 y4), (5, .own rRec 24 v18 x19)]) ∧ i22 = (k21 : Int) ∧ each (wandererref_linesOf_b16 b) wandererref_linesOf_k17 (y4.drop k21) (x19, x20) = some r) (fun ⟨k21, i22, v18, x19, x20⟩ => y4.length - k21) ⟨0, 0, (.slice none 0 0), [], 0⟩ ⟨rfl, rfl, rfl, trivial⟩ ?_ ?_
  ·
   exact ⟨h.cn _, rfl, hs⟩
  ·
   rintro ⟨k21, i22, v18, x19, x20⟩ w junk ⟨h, hik, hs⟩
   refine wc_seq (wc_region ?_)
   refine wl_ok (r_lss rfl rfl) (wl_nil (then_normal ?_))
   refine wc_seq (wc_if rfl (fun e26 => ?_) (fun e26 => ?_))
   ·
    refine wc_skip (then_normal ?_)
    obtain ⟨x23, e27a, e27b⟩ := drop_lt (hik ▸ e26)
    rw [e27b, each_cons] at hs
    generalize hnx25 : each (wandererref_linesOf_b16 b) wandererref_linesOf_k17 (y4.drop (k21 + 1)) = nx25 at hs
    have e27r := nat_rng ((h.rdS 1 rfl)).len_le hik e26
    refine wc_seq (wc_block (wc_seq (wc_region ?_)))
    obtain ⟨b29, o30, cs31, h, r32, i28⟩ := h.ixR 1 6 rfl SliceOf61 rfl (nat_nn hik) (get_nat hik e27a)
    obtain rfl := r32
    refine wl_ok (i28 _ _ _ _ _ _ _ _ _ rfl rfl) (wl_ok (r_ldP (k := 0) h 6 rfl One9 rfl rfl) (wl_ok (r_assign (v := (strV x23)) rfl) (wl_nil (then_normal (wc_seq (wc_seq (wc_region (wl_ok (r_move (v := (strV x23)) rfl) (wl_ok (r_eqls rfl rfl) (wl_nil (then_normal (wc_ifb hs rfl (fun c33 hs => ?_) (fun c33 hs => ?_)))))))))))))
    ·
     refine wc_exit (then_exit (inBlock_ne (by decide) (then_exit (then_exit (inBlock_eq (then_loop ?_))))))
     exact jend (v18, x19, x20) ⟨h.cn _, hs⟩
    ·
     refine wc_skip (then_normal (wc_seq (wc_seq (wc_region (wl_ok (r_move (v := (strV x23)) rfl) ?_)))))
     obtain ⟨y34, e35, hs⟩ := o_bind hs
     refine w_call fnOk74 rfl rfl (strings_HasSuffix_c _ _ h.lt x23 [10] _ e35) ?_
     rintro _ w ⟨k36, rfl⟩
     refine ⟨_, rfl, ?_⟩
     replace h := h.grow k36
     refine wl_ok (r_notb rfl) (wl_nil (then_normal (wc_ifb hs rfl (fun c37 hs => ?_) (fun c37 hs => ?_))))
     ·
      refine wc_seq (wc_region (wl_ok (r_move (v := v18) rfl) (wl_ok (r_move (v := (.int .i64 (x20))) rfl) (wl_ok (r_assign (v := v18) rfl) (wl_ok (r_assign (v := (.int .i64 (x20))) rfl) (wl_ok (r_assign (v := (.int .i64 (8))) rfl) (wl_nil (then_normal (wc_ret (then_ret (inBlock_ret (then_ret (then_ret (inBlock_ret (then_ret (fin3 (v1 := v18) (v2 := (.int .i64 (x20))) (v3 := (.int .i64 (8))) Tryd.results51 rfl rfl rfl ?_))))))))))))))))
      obtain rfl := Option.some.inj hs
      exact ⟨h.grown, _, rfl, (h.outOwn 5 rfl).1, (h.outOwn 5 rfl).2⟩
     ·
      refine wc_skip (then_normal (wc_seq (wc_region (wl_ok (r_move (v := (strV x23)) rfl) (wl_ok (r_move (v := (strV x23)) rfl) (wl_ok (r_lenS Tryd.underlying9 rfl) ?_))))))
      obtain ⟨a38, hs⟩ := o_grd hs
      refine wl_ok (r_sub rfl rfl a38) ?_
      obtain ⟨x39, e40, hs⟩ := o_bind hs
      obtain ⟨e41a, e41b, e41c, e41⟩ := o_subs e40
      refine wl_ok (r_slsE e41 Tryd.underlying9 rfl (.inl ⟨rfl, rfl⟩) (.inr (congrArg some rfl)) e41a e41b e41c) ?_
      obtain ⟨y42, e43, hs⟩ := o_bind hs
      refine w_call fnOk15 rfl rfl (wandererref_RecRead_c _ _ h.lt (hT.go h.keep) x39 _ e43) ?_
      rintro _ w ⟨k48, u44, u46, rfl, g45, g47⟩
      refine ⟨_, rfl, ?_⟩
      replace h := h.gotRd 7 k48 g45
      replace h := h.knowRd 8 g47.up
      refine wl_ok (r_move (v := (.tuple #[(.agg #[(.int .i64 (y42.1.kind)), (.int .i64 (y42.1.co)), (.int .i64 (y42.1.epoch)), (.int .i64 (y42.1.place)), u44, u46]), (.int .i64 (y42.2))])) rfl) (wl_ok (r_extract rfl rfl) (wl_ok (r_extract rfl rfl) (w_allocN h 9 Many24 fun w b49 h => w_stN (vs := [(.int .i64 (y42.1.kind)), (.int .i64 (y42.1.co)), (.int .i64 (y42.1.epoch)), (.int .i64 (y42.1.place)), u44, u46]) h 9 [(.int .i64 (y42.1.kind)), (.int .i64 (y42.1.co)), (.int .i64 (y42.1.epoch)), (.int .i64 (y42.1.place)), u44, u46] rfl Many24 rfl rfl rfl rfl rfl (ones_cons rfl (ones_cons rfl (ones_cons rfl (ones_cons rfl (ones_cons (h.rdAt 7 rfl).one (ones_cons (h.rdAt 8 rfl).one ones_nil)))))) fun w h => wl_ok (r_assign (v := (.int .i64 (y42.2))) rfl) (wl_nil (then_normal (wc_join (σ := Int) (inl [12, 36, 37, 38, 39, 40, 41, 42, 43]) (fun x50 => [(12, (.int .i64 (x50))), (39, (gv (decide ((y42.2 : Int) = 0) == true) v18)), (40, (gv (decide ((y42.2 : Int) = 0) == true) (.int .i64 ((x19.length : Int))))), (41, (gv (decide ((y42.2 : Int) = 0) == true) (.int .i64 (b)))), (42, (gv (decide ((y42.2 : Int) = 0) == true) (.bool (decide ((b : Int) ≤ (x19.length : Int))))))]) (fun x50 w => SH w0 M BE w (hset [(1, .rd rStr u6 y4), (5, .own rRec 24 v18 x19), (7, .rd rInt u44 y42.1.says), (8, .rd rInt u46 y42.1.image), (9, .blk b49 [(.int .i64 (y42.1.kind)), (.int .i64 (y42.1.co)), (.int .i64 (y42.1.epoch)), (.int .i64 (y42.1.place)), u44, u46])]) ∧ wandererref_linesOf_j15 x19 x20 y42 x23 nx25 x50 = some r) ?_ ?_))))))
      ·
       rintro x50 w junk ⟨h, hs⟩
       refine wc_seq (wc_seq (wc_region (wl_ok (r_move (v := (.int .i64 (x50))) rfl) (wl_ok (r_neq rfl rfl) (wl_nil (then_normal (wc_ifb hs rfl (fun c51 hs => ?_) (fun c51 hs => ?_))))))))
       ·
        refine wc_seq (wc_region (wl_ok (r_move (v := v18) rfl) (wl_ok (r_move (v := (.int .i64 (x20))) rfl) (wl_ok (r_move (v := (.int .i64 (x50))) rfl) (wl_ok (r_assign (v := v18) rfl) (wl_ok (r_assign (v := (.int .i64 (x20))) rfl) (wl_ok (r_assign (v := (.int .i64 (x50))) rfl) (wl_nil (then_normal (wc_ret (then_ret (inBlock_ret (then_ret (then_ret (inBlock_ret (then_ret (fin3 (v1 := v18) (v2 := (.int .i64 (x20))) (v3 := (.int .i64 (x50))) Tryd.results51 rfl rfl rfl ?_)))))))))))))))))
        obtain rfl := Option.some.inj hs
        exact ⟨h.grown, _, rfl, (h.outOwn 5 rfl).1, (h.outOwn 5 rfl).2⟩
       ·
        refine wc_skip (then_normal (wc_seq (wc_region (wl_ok (r_move (v := v18) rfl) (wl_ok (r_ldBN (vs := [(.int .i64 (y42.1.kind)), (.int .i64 (y42.1.co)), (.int .i64 (y42.1.epoch)), (.int .i64 (y42.1.place)), u44, u46]) h 9 rfl Many24 rfl rfl rfl) (w_bs (R := rRec) (vs := [(.agg #[(.int .i64 (y42.1.kind)), (.int .i64 (y42.1.co)), (.int .i64 (y42.1.epoch)), (.int .i64 (y42.1.place)), u44, u46])]) (xs := [y42.1]) h 10 ElemOf34 rfl rfl rfl ⟨⟨_, _, rfl, (h.rdAt 7 rfl), (h.rdAt 8 rfl)⟩, trivial⟩ rfl fun w u52 h => ?_))))))
        obtain ⟨a53, hs⟩ := o_grd hs
        refine w_app (R := rRec) (m := [y42.1]) h 5 rfl (h.ownS 10 rfl) ElemOf34 rfl rfl rfl a53.1 a53.2 fun w u54 h => wl_ok (r_assign (v := u54) rfl) (wl_nil (then_normal (wc_region (wl_ok (r_move (v := (.int .i64 (x20))) rfl) (wl_ok (r_move (v := (strV x23)) rfl) (wl_ok (r_lenS Tryd.underlying9 rfl) ?_))))))
        obtain ⟨a55, hs⟩ := o_grd hs
        refine wl_ok (r_add rfl rfl a55) (wl_ok (r_assign (v := (.int .i64 ((x20 + (x23.length : Int))))) rfl) (wl_nil (inBlock_normal (then_normal (wc_region (wl_ok (r_add rfl rfl e27r) (wl_ok (r_move (v := (.int .i64 ((i22 + 1)))) rfl) (wl_nil (then_loop ?_)))))))))
        subst hnx25
        exact lend ⟨k21 + 1, i22 + 1, u54, (x19 ++ [y42.1]), (x20 + (x23.length : Int))⟩ ⟨h.cn _, by omega, hs⟩ (by have := of_decide_eq_true e26; dsimp only; omega)
      ·
       refine wc_seq (wc_region (wl_ok (r_move (v := (.int .i64 (y42.2))) rfl) (wl_ok (r_eql rfl rfl) (wl_ok (r_move (v := (.bool (decide ((y42.2 : Int) = 0)))) rfl) (wl_gd0 rfl rfl (fun q => r_move (v := v18) rfl) (wl_gd0 rfl rfl (fun q => r_len SliceOf34 (gvt q) (h.ownS 5 rfl)) (wl_gd0 rfl rfl (fun q => r_move (v := (.int .i64 (b))) rfl) (wl_gd0 rfl rfl (fun q => r_geq (gvt q) (gvt q)) (wl_ok (r_pand rfl rfl evc) (wl_nil (then_normal (wc_ifb hs rfl (fun c56 hs => ?_) (fun c56 hs => ?_)))))))))))))
       ·
        refine wc_region (wl_ok (r_assign (v := (.int .i64 (2))) rfl) (wl_nil (then_loop ?_)))
        exact jend 2 ⟨h.cn _, hs⟩
       ·
        refine wc_skip (then_loop ?_)
        exact jend y42.2 ⟨h.cn _, hs⟩
   ·
    rw [drop_ge (hik ▸ e26), each_nil] at hs
    refine wc_exit (then_exit (then_exit (inBlock_eq (then_loop ?_))))
    exact jend (v18, x19, x20) ⟨h.cn _, hs⟩
def wandererref_CheckDisk_j2 (a : Disk) (x2 : Bool) : Option Int :=
  bif x2 then some 2 else (wandererref_linesOf a.safe 120).bind fun y4 => some y4.2.2
def wandererref_CheckDisk (a : Disk) : Option Int :=
  bif decide ((60000 : Int) < (a.safe.length : Int)) then wandererref_CheckDisk_j2 a true else grd (I64 (60000 - (a.safe.length : Int))) (wandererref_CheckDisk_j2 a (decide (((60000 - (a.safe.length : Int)) : Int) < (a.wait.length : Int))))
theorem wandererref_CheckDisk_c (w0 : World) (M : BS) (hM : ∀ b, M b → b < w0.heap.size) (hT : Tabs Tryd.prog 3 w0) (a : Disk) (va0 va1 : Value) (ha0 : Rd2 rByte w0 BE M va0 a.safe) (ha1 : Rd2 rByte w0 BE M va1 a.wait) (r : Int) (hs : wandererref_CheckDisk a = some r) :
    Calls Tryd.prog 26 #[(.agg #[va0, va1])] w0 (fun e w' => Grow w0 w' ∧ e = .returned (.int .i64 r)) := by
 refine calls_start (args := [(.agg #[va0, va1])]) Tryd.func26 rfl Tryd.ntmps26 (Nat.le_of_ble_eq_true rfl) ?_
 have h := SH.init hM
 replace h := h.argSr 1 ha0 none_own
 replace h := h.argSr 2 ha1 (hupd_own_sr none_own)
 refine wc_seq (wc_region (w_box (cs := [va0, va1]) h 3 rfl rfl fun w b1 h => wl_ok (r_assign (v := (.int .i64 (0))) rfl) (wl_nil (then_normal (wc_seq (wc_join (σ := Bool) (inl [6, 7, 8, 9, 10, 11, 12, 13, 14, 15, 16, 17, 18, 19]) (fun x2 => [(19, (.bool (x2)))]) (fun x2 w => SH w0 M BE w (hset [(1, .sr rByte va0 a.safe), (2, .sr rByte va1 a.wait), (3, .blk b1 [va0, va1])]) ∧ wandererref_CheckDisk_j2 a x2 = some r) ?_ ?_))))))
 ·
  rintro x2 w junk ⟨h, hs⟩
  refine wc_ifb hs rfl (fun c3 hs => ?_) (fun c3 hs => ?_)
  ·
   refine wc_seq (wc_region (wl_ok (r_assign (v := (.int .i64 (2))) rfl) (wl_nil (then_normal (wc_ret (then_ret (fin1 (v := (.int .i64 (2))) Tryd.results26 rfl ?_)))))))
   obtain rfl := Option.some.inj hs
   exact ⟨h.grown, rfl⟩
  ·
   refine wc_skip (then_normal (wc_seq (wc_region (wl_ok (r_fieldAddr Fld37x0 rfl) (wl_ok (r_ldB h 3 rfl One35 rfl rfl) (wl_ok (r_b2s Tryd.underlying35 Tryd.underlying5 Tryd.underlying9 rfl (h.srS 1 rfl)) ?_))))))
   obtain ⟨y4, e5, hs⟩ := o_bind hs
   refine w_call fnOk51 rfl rfl (wandererref_linesOf_c _ _ h.lt (hT.go h.keep) a.safe 120 _ e5) ?_
   rintro _ w ⟨k9, u6, rfl, g7, g8⟩
   refine ⟨_, rfl, ?_⟩
   replace h := h.gotOwn 4 k9 g7 g8
   refine wl_ok (r_move (v := (.tuple #[u6, (.int .i64 (y4.2.1)), (.int .i64 (y4.2.2))])) rfl) (wl_ok (r_extract rfl rfl) (wl_ok (r_extract rfl rfl) (wl_ok (r_extract rfl rfl) (wl_ok (r_assign (v := u6) rfl) (wl_ok (r_assign (v := (.int .i64 (y4.2.1))) rfl) (wl_ok (r_assign (v := (.int .i64 (y4.2.2))) rfl) (wl_nil (then_normal (wc_seq (wc_region (wl_ok (r_move (v := (.int .i64 (y4.2.2))) rfl) (wl_ok (r_assign (v := (.int .i64 (y4.2.2))) rfl) (wl_nil (then_normal (wc_ret (fin1 (v := (.int .i64 (y4.2.2))) Tryd.results26 rfl ?_))))))))))))))))
   obtain rfl := Option.some.inj hs
   exact ⟨h.grown, rfl⟩
 ·
  refine wc_region (wl_ok (r_fieldAddr Fld37x0 rfl) (wl_ok (r_ldB h 3 rfl One35 rfl rfl) (wl_ok (r_len SliceOf35 rfl (h.srS 1 rfl)) (wl_ok (r_gtr rfl rfl) (wl_ok (r_move (v := (.bool (decide ((60000 : Int) < (a.safe.length : Int))))) rfl) (c_split (b := decide ((60000 : Int) < (a.safe.length : Int))) hs (fun c10 hs => ?_) (fun c10 hs => ?_)))))))
  ·
   refine wl_off (b' := true) rfl (congrArg Value.bool c10) rfl (wl_off (b' := true) rfl (congrArg Value.bool c10) rfl (wl_off (b' := true) rfl (congrArg Value.bool c10) rfl (wl_off (b' := true) rfl (congrArg Value.bool c10) rfl (wl_off (b' := true) rfl (congrArg Value.bool c10) rfl (wl_off (b' := true) rfl (congrArg Value.bool c10) rfl (wl_off (b' := true) rfl (congrArg Value.bool c10) rfl (wl_off (b' := true) rfl (congrArg Value.bool c10) rfl (wl_ok (r_pick (b := true) (v := (.bool (true))) (congrArg Value.bool c10) rfl) (wl_nil (then_loop ?_))))))))))
   exact jend true ⟨h.cn _, hs⟩
  ·
   refine wl_on rfl (congrArg Value.bool c10) (wl_ok (r_fieldAddr Fld37x1 rfl) (wl_on rfl (congrArg Value.bool c10) (wl_ok (r_ldB h 3 rfl One35 rfl rfl) (wl_on rfl (congrArg Value.bool c10) (wl_ok (r_len SliceOf35 rfl (h.srS 2 rfl)) (wl_on rfl (congrArg Value.bool c10) (wl_ok (r_fieldAddr Fld37x0 rfl) (wl_on rfl (congrArg Value.bool c10) (wl_ok (r_ldB h 3 rfl One35 rfl rfl) (wl_on rfl (congrArg Value.bool c10) (wl_ok (r_len SliceOf35 rfl (h.srS 1 rfl)) (wl_on rfl (congrArg Value.bool c10) ?_))))))))))))
   obtain ⟨a11, hs⟩ := o_grd hs
   refine wl_ok (r_sub rfl rfl a11) (wl_on rfl (congrArg Value.bool c10) (wl_ok (r_gtr rfl rfl) (wl_ok (r_pick (b := false) (v := (.bool (decide (((60000 - (a.safe.length : Int)) : Int) < (a.wait.length : Int))))) (congrArg Value.bool c10) rfl) (wl_nil (then_loop ?_)))))
   exact jend (decide (((60000 - (a.safe.length : Int)) : Int) < (a.wait.length : Int))) ⟨h.cn _, hs⟩
def wandererlaw_filed (N : Nat) : Option Bool :=
  (disk_Put N (⟨[], []⟩ : Disk) (⟨5, 0, 1, 0, [], []⟩ : Rec)).bind fun y1 => (disk_Sync N y1.1).bind fun y9 => (disk_Put N y9.1 (⟨3, 0, 1, 2, [], []⟩ : Rec)).bind fun y16 => (disk_Crash N y16.1 4).bind fun y23 => (disk_Recover N y23.1).bind fun y30 => bif (((((((decide ((y1.2 : Int) = 0) && decide ((y9.2 : Int) = 0)) && decide ((y16.2 : Int) = 0)) && decide ((y23.2 : Int) = 0)) && decide ((y30.2.2 : Int) = 0)) && decide ((y30.1.safe : Str) = [53, 32, 48, 32, 49, 32, 48, 32, 48, 10])) && decide (((y30.1.wait.length : Int) : Int) = 0)) && decide (((y30.2.1.length : Int) : Int) = 1)) then (idx y30.2.1 0).bind fun x41 => some (decide ((x41.kind : Int) = 5)) else some false
theorem wandererlaw_filed_c (N : Nat) (w0 : World) (M : BS) (hM : ∀ b, M b → b < w0.heap.size) (hT : Tabs Tryd.prog 3 w0)  (r : Bool) (hs : wandererlaw_filed N = some r) :
    Calls Tryd.prog 16 #[] w0 (fun e w' => Grow w0 w' ∧ e = .returned (.bool r)) := by
 refine calls_start (args := []) Tryd.func16 rfl Tryd.ntmps16 (Nat.le_of_ble_eq_true rfl) ?_
 have h := SH.init hM
 refine wc_seq (wc_region (wl_ok (r_assign (v := (.bool (false))) rfl) (wl_nil (then_normal (wc_seq (wc_region (wl_ok (r_build (pv := []) (out := [(.slice none 0 0), (.slice none 0 0)]) Struct37 rfl rfl) (wl_ok (r_build (pv := [(0, (.int .i64 (5))), (2, (.int .i64 (1)))]) (out := [(.int .i64 (5)), (.int .i64 (0)), (.int .i64 (1)), (.int .i64 (0)), (.slice none 0 0), (.slice none 0 0)]) Struct24 rfl ⟨0, 1, [(.int .i64 (5))], rfl, rfl, rfl, Nat.le_of_ble_eq_true rfl, ⟨2, 1, [(.int .i64 (1))], rfl, rfl, rfl, Nat.le_of_ble_eq_true rfl, rfl⟩⟩) ?_))))))))
 obtain ⟨y1, e2, hs⟩ := o_bind hs
 refine w_call fnOk18 rfl rfl (disk_Put_c N _ _ h.lt (hT.go h.keep) (⟨[], []⟩ : Disk) (.slice none 0 0) (.slice none 0 0) Rd2.nil Rd2.nil (⟨5, 0, 1, 0, [], []⟩ : Rec) (.slice none 0 0) (.slice none 0 0) Rd2.nil Rd2.nil _ e2) ?_
 rintro _ w ⟨k7, u3, u5, rfl, g4, g6⟩
 refine ⟨_, rfl, ?_⟩
 replace h := h.gotRd 1 k7 g4
 replace h := h.knowRd 2 g6.up
 refine wl_ok (r_move (v := (.tuple #[(.agg #[u3, u5]), (.int .i64 (y1.2))])) rfl) (wl_ok (r_extract rfl rfl) (wl_ok (r_extract rfl rfl) (w_allocN h 3 Many37 fun w b8 h => w_stN (vs := [u3, u5]) h 3 [u3, u5] rfl Many37 rfl rfl rfl rfl rfl (ones_cons (h.rdAt 1 rfl).one (ones_cons (h.rdAt 2 rfl).one ones_nil)) fun w h => wl_ok (r_assign (v := (.int .i64 (y1.2))) rfl) (wl_nil (then_normal (wc_seq (wc_region (wl_ok (r_ldBN (vs := [u3, u5]) h 3 rfl Many37 rfl rfl rfl) ?_))))))))
 obtain ⟨y9, e10, hs⟩ := o_bind hs
 refine w_call fnOk19 rfl rfl (disk_Sync_c N _ _ h.lt (hT.go h.keep) y1.1 u3 u5 (h.rdAt 1 rfl) (h.rdAt 2 rfl) _ e10) ?_
 rintro _ w ⟨k15, u11, u13, rfl, g12, g14⟩
 refine ⟨_, rfl, ?_⟩
 replace h := h.gotRd 4 k15 g12
 replace h := h.knowRd 5 g14.up
 refine wl_ok (r_move (v := (.tuple #[(.agg #[u11, u13]), (.int .i64 (y9.2))])) rfl) (wl_ok (r_extract rfl rfl) (wl_ok (r_extract rfl rfl) (w_stN (vs := [u11, u13]) h 3 [u11, u13] rfl Many37 rfl rfl rfl rfl rfl (ones_cons (h.rdAt 4 rfl).one (ones_cons (h.rdAt 5 rfl).one ones_nil)) fun w h => wl_ok (r_assign (v := (.int .i64 (y9.2))) rfl) (wl_nil (then_normal (wc_seq (wc_region (wl_ok (r_ldBN (vs := [u11, u13]) h 3 rfl Many37 rfl rfl rfl) (wl_ok (r_build (pv := [(0, (.int .i64 (3))), (2, (.int .i64 (1))), (3, (.int .i64 (2)))]) (out := [(.int .i64 (3)), (.int .i64 (0)), (.int .i64 (1)), (.int .i64 (2)), (.slice none 0 0), (.slice none 0 0)]) Struct24 rfl ⟨0, 1, [(.int .i64 (3))], rfl, rfl, rfl, Nat.le_of_ble_eq_true rfl, ⟨2, 1, [(.int .i64 (1))], rfl, rfl, rfl, Nat.le_of_ble_eq_true rfl, ⟨3, 1, [(.int .i64 (2))], rfl, rfl, rfl, Nat.le_of_ble_eq_true rfl, rfl⟩⟩⟩) ?_)))))))))
 obtain ⟨y16, e17, hs⟩ := o_bind hs
 refine w_call fnOk18 rfl rfl (disk_Put_c N _ _ h.lt (hT.go h.keep) y9.1 u11 u13 (h.rdS 4 rfl) (h.rdS 5 rfl) (⟨3, 0, 1, 2, [], []⟩ : Rec) (.slice none 0 0) (.slice none 0 0) Rd2.nil Rd2.nil _ e17) ?_
 rintro _ w ⟨k22, u18, u20, rfl, g19, g21⟩
 refine ⟨_, rfl, ?_⟩
 replace h := h.gotRd 6 k22 g19
 replace h := h.knowRd 7 g21.up
 refine wl_ok (r_move (v := (.tuple #[(.agg #[u18, u20]), (.int .i64 (y16.2))])) rfl) (wl_ok (r_extract rfl rfl) (wl_ok (r_extract rfl rfl) (w_stN (vs := [u18, u20]) h 3 [u18, u20] rfl Many37 rfl rfl rfl rfl rfl (ones_cons (h.rdAt 6 rfl).one (ones_cons (h.rdAt 7 rfl).one ones_nil)) fun w h => wl_ok (r_assign (v := (.int .i64 (y16.2))) rfl) (wl_nil (then_normal (wc_seq (wc_region (wl_ok (r_ldBN (vs := [u18, u20]) h 3 rfl Many37 rfl rfl rfl) ?_))))))))
 obtain ⟨y23, e24, hs⟩ := o_bind hs
 refine w_call fnOk20 rfl rfl (disk_Crash_c N _ _ h.lt (hT.go h.keep) y16.1 u18 u20 (h.rdS 6 rfl) (h.rdS 7 rfl) 4 _ e24) ?_
 rintro _ w ⟨k29, u25, u27, rfl, g26, g28⟩
 refine ⟨_, rfl, ?_⟩
 replace h := h.gotRd 8 k29 g26
 replace h := h.knowRd 9 g28.up
 refine wl_ok (r_move (v := (.tuple #[(.agg #[u25, u27]), (.int .i64 (y23.2))])) rfl) (wl_ok (r_extract rfl rfl) (wl_ok (r_extract rfl rfl) (w_stN (vs := [u25, u27]) h 3 [u25, u27] rfl Many37 rfl rfl rfl rfl rfl (ones_cons (h.rdAt 8 rfl).one (ones_cons (h.rdAt 9 rfl).one ones_nil)) fun w h => wl_ok (r_assign (v := (.int .i64 (y23.2))) rfl) (wl_nil (then_normal (wc_seq (wc_region (wl_ok (r_ldBN (vs := [u25, u27]) h 3 rfl Many37 rfl rfl rfl) ?_))))))))
 obtain ⟨y30, e31, hs⟩ := o_bind hs
 refine w_call fnOk22 rfl rfl (disk_Recover_c N _ _ h.lt (hT.go h.keep) y23.1 u25 u27 (h.rdAt 8 rfl) (h.rdAt 9 rfl) _ e31) ?_
 rintro _ w ⟨k39, u32, u34, u36, rfl, g33, g35, g37, g38⟩
 refine ⟨_, rfl, ?_⟩
 replace h := h.gotOwn 12 k39 g37 g38
 replace h := h.knowRd 10 g33.upO
 replace h := h.knowRd 11 g35.upO.up
 refine wl_ok (r_move (v := (.tuple #[(.agg #[u32, u34]), u36, (.int .i64 (y30.2.2))])) rfl) (wl_ok (r_extract rfl rfl) (wl_ok (r_extract rfl rfl) (wl_ok (r_extract rfl rfl) (w_stN (vs := [u32, u34]) h 3 [u32, u34] rfl Many37 rfl rfl rfl rfl rfl (ones_cons (h.rdAt 10 rfl).one (ones_cons (h.rdAt 11 rfl).one ones_nil)) fun w h => wl_ok (r_assign (v := u36) rfl) (wl_ok (r_assign (v := (.int .i64 (y30.2.2))) rfl) (wl_nil (then_normal (wc_seq (wc_region (wl_ok (r_move (v := (.int .i64 (y1.2))) rfl) (wl_ok (r_eql rfl rfl) (wl_ok (r_move (v := (.bool (decide ((y1.2 : Int) = 0)))) rfl) (wl_gd0 rfl rfl (fun q => r_move (v := (.int .i64 (y9.2))) rfl) (wl_gd0 rfl rfl (fun q => r_eql (gvt q) rfl) (wl_ok (r_pand rfl rfl evc) (wl_ok (r_move (v := (.bool ((decide ((y1.2 : Int) = 0) && decide ((y9.2 : Int) = 0))))) rfl) (wl_gd0 rfl rfl (fun q => r_move (v := (.int .i64 (y16.2))) rfl) (wl_gd0 rfl rfl (fun q => r_eql (gvt q) rfl) (wl_ok (r_pand rfl rfl evc) (wl_ok (r_move (v := (.bool (((decide ((y1.2 : Int) = 0) && decide ((y9.2 : Int) = 0)) && decide ((y16.2 : Int) = 0))))) rfl) (wl_gd0 rfl rfl (fun q => r_move (v := (.int .i64 (y23.2))) rfl) (wl_gd0 rfl rfl (fun q => r_eql (gvt q) rfl) ?_))))))))))))))))))))))
 refine wl_ok (r_pand rfl rfl evc) (wl_ok (r_move (v := (.bool ((((decide ((y1.2 : Int) = 0) && decide ((y9.2 : Int) = 0)) && decide ((y16.2 : Int) = 0)) && decide ((y23.2 : Int) = 0))))) rfl) (wl_gd0 rfl rfl (fun q => r_move (v := (.int .i64 (y30.2.2))) rfl) (wl_gd0 rfl rfl (fun q => r_eql (gvt q) rfl) (wl_ok (r_pand rfl rfl evc) (wl_ok (r_move (v := (.bool (((((decide ((y1.2 : Int) = 0) && decide ((y9.2 : Int) = 0)) && decide ((y16.2 : Int) = 0)) && decide ((y23.2 : Int) = 0)) && decide ((y30.2.2 : Int) = 0))))) rfl) (wl_gd0 rfl rfl (fun q => r_fieldAddr Fld37x0 rfl) (wl_gd0 rfl rfl (fun q => r_ldB h 3 rfl One35 (gvt q) rfl) (wl_gd0 rfl rfl (fun q => r_b2s Tryd.underlying35 Tryd.underlying5 Tryd.underlying9 (gvt q) (h.rdS 10 rfl)) (wl_gd0 rfl rfl (fun q => r_eqls (gvt q) rfl) (wl_ok (r_pand rfl rfl evc) (wl_ok (r_move (v := (.bool ((((((decide ((y1.2 : Int) = 0) && decide ((y9.2 : Int) = 0)) && decide ((y16.2 : Int) = 0)) && decide ((y23.2 : Int) = 0)) && decide ((y30.2.2 : Int) = 0)) && decide ((y30.1.safe : Str) = [53, 32, 48, 32, 49, 32, 48, 32, 48, 10]))))) rfl) (wl_gd0 rfl rfl (fun q => r_fieldAddr Fld37x1 rfl) (wl_gd0 rfl rfl (fun q => r_ldB h 3 rfl One35 (gvt q) rfl) (wl_gd0 rfl rfl (fun q => r_len SliceOf35 (gvt q) (h.rdS 11 rfl)) (wl_gd0 rfl rfl (fun q => r_eql (gvt q) rfl) (wl_ok (r_pand rfl rfl evc) (wl_ok (r_move (v := (.bool (((((((decide ((y1.2 : Int) = 0) && decide ((y9.2 : Int) = 0)) && decide ((y16.2 : Int) = 0)) && decide ((y23.2 : Int) = 0)) && decide ((y30.2.2 : Int) = 0)) && decide ((y30.1.safe : Str) = [53, 32, 48, 32, 49, 32, 48, 32, 48, 10])) && decide (((y30.1.wait.length : Int) : Int) = 0))))) rfl) (wl_gd0 rfl rfl (fun q => r_move (v := u36) rfl) (wl_gd0 rfl rfl (fun q => r_len SliceOf34 (gvt q) (h.ownS 12 rfl)) (wl_gd0 rfl rfl (fun q => r_eql (gvt q) rfl) (wl_ok (r_pand rfl rfl evc) (wl_ok (r_move (v := (.bool ((((((((decide ((y1.2 : Int) = 0) && decide ((y9.2 : Int) = 0)) && decide ((y16.2 : Int) = 0)) && decide ((y23.2 : Int) = 0)) && decide ((y30.2.2 : Int) = 0)) && decide ((y30.1.safe : Str) = [53, 32, 48, 32, 49, 32, 48, 32, 48, 10])) && decide (((y30.1.wait.length : Int) : Int) = 0)) && decide (((y30.2.1.length : Int) : Int) = 1))))) rfl) (c_split (b := (((((((decide ((y1.2 : Int) = 0) && decide ((y9.2 : Int) = 0)) && decide ((y16.2 : Int) = 0)) && decide ((y23.2 : Int) = 0)) && decide ((y30.2.2 : Int) = 0)) && decide ((y30.1.safe : Str) = [53, 32, 48, 32, 49, 32, 48, 32, 48, 10])) && decide (((y30.1.wait.length : Int) : Int) = 0)) && decide (((y30.2.1.length : Int) : Int) = 1))) hs (fun c40 hs => ?_) (fun c40 hs => ?_))))))))))))))))))))))))
 ·
  refine wl_on rfl (congrArg Value.bool c40) (wl_ok (r_move (v := u36) rfl) (wl_on rfl (congrArg Value.bool c40) ?_))
  obtain ⟨x41, e42, hs⟩ := o_bind hs
  obtain ⟨b44, q45, i43⟩ := h.ixO 12 rfl SliceOf34 rfl (o_idx e42).1 (o_idx e42).2
  refine wl_ok (i43 _ _ _ _ _ _ _ _ _ rfl rfl) (wl_on rfl (congrArg Value.bool c40) (wl_ok (r_fieldAddr Fld24x0 rfl) (wl_on rfl (congrArg Value.bool c40) ?_)))
  obtain ⟨cs46, m47, r48⟩ := h.elO 12 rfl q45 (o_idx e42).2
  obtain ⟨u49, u51, rfl, g50, g52⟩ := rRec_open r48
  replace h := h.knowRd 13 g50
  replace h := h.knowRd 14 g52.up
  refine wl_ok (r_ldA (k := 0) m47 One3 rfl rfl) (wl_on rfl (congrArg Value.bool c40) (wl_ok (r_eql rfl rfl) (wl_ok (r_pick (b := true) (v := (.bool (decide ((x41.kind : Int) = 5)))) (congrArg Value.bool c40) rfl) (wl_ok (r_assign (v := (.bool (decide ((x41.kind : Int) = 5)))) rfl) (wl_nil (then_normal (wc_ret (fin1 (v := (.bool (decide ((x41.kind : Int) = 5)))) Tryd.results16 rfl ?_))))))))
  obtain rfl := Option.some.inj hs
  exact ⟨h.grown, rfl⟩
 ·
  refine wl_off (b' := false) rfl (congrArg Value.bool c40) rfl (wl_off (b' := false) rfl (congrArg Value.bool c40) rfl (wl_off (b' := false) rfl (congrArg Value.bool c40) rfl (wl_off (b' := false) rfl (congrArg Value.bool c40) rfl (wl_off (b' := false) rfl (congrArg Value.bool c40) rfl (wl_ok (r_pick (b := false) (v := (.bool (false))) (congrArg Value.bool c40) rfl) (wl_ok (r_assign (v := (.bool (false))) rfl) (wl_nil (then_normal (wc_ret (fin1 (v := (.bool (false))) Tryd.results16 rfl ?_))))))))))
  obtain rfl := Option.some.inj hs
  exact ⟨h.grown, rfl⟩
def slices_Equal_byte_b3 (a : List UInt8) (b : List UInt8) (i3 : Int) (s : Unit) (nx6 : Unit → Option Bool) : Option Bool :=
  (idx a i3).bind fun x9 => (idx b i3).bind fun x16 => bif decide (((x9.toNat : Int) : Int) ≠ (x16.toNat : Int)) then some false else nx6 ()
def slices_Equal_byte_k4 (s : Unit) : Option Bool :=
  some true
def slices_Equal_byte (a : List UInt8) (b : List UInt8) : Option Bool :=
  bif decide (((a.length : Int) : Int) ≠ (b.length : Int)) then some false else upto (slices_Equal_byte_b3 a b) slices_Equal_byte_k4 0 ((a.length : Int)).toNat ()
theorem slices_Equal_byte_c (w0 : World) (M : BS) (hM : ∀ b, M b → b < w0.heap.size) (va : Value) (a : List UInt8) (ha : Rd2 rByte w0 BE M va a) (vb : Value) (b : List UInt8) (hb : Rd2 rByte w0 BE M vb b) (r : Bool) (hs : slices_Equal_byte a b = some r) :
    Calls Tryd.prog 50 #[va, vb] w0 (fun e w' => Grow w0 w' ∧ e = .returned (.bool r)) := by
 refine calls_start (args := [va, vb]) Tryd.func50 rfl Tryd.ntmps50 (Nat.le_of_ble_eq_true rfl) ?_
 have h := SH.init hM
 replace h := h.argSr 1 ha none_own
 replace h := h.argSr 2 hb (hupd_own_sr none_own)
 have hl_a := ha.len_le
 have hl_b := hb.len_le
 refine wc_seq (wc_region (wl_ok (r_assign (v := (.bool (false))) rfl) (wl_nil (then_normal (wc_seq (wc_seq (wc_region (wl_ok (r_move (v := va) rfl) (wl_ok (r_len SliceOf35 rfl (h.srS 1 rfl)) (wl_ok (r_move (v := vb) rfl) (wl_ok (r_len SliceOf35 rfl (h.srS 2 rfl)) (wl_ok (r_neq rfl rfl) (wl_nil (then_normal (wc_ifb hs rfl (fun c1 hs => ?_) (fun c1 hs => ?_))))))))))))))))
 ·
  refine wc_seq (wc_region (wl_ok (r_assign (v := (.bool (false))) rfl) (wl_nil (then_normal (wc_ret (then_ret (fin1 (v := (.bool (false))) Tryd.results50 rfl ?_)))))))
  obtain rfl := Option.some.inj hs
  exact ⟨h.grown, rfl⟩
 ·
  refine wc_skip (then_normal (wc_seq (wc_seq (wc_region (wl_ok (r_move (v := va) rfl) (wl_ok (r_len SliceOf35 rfl (h.srS 1 rfl)) (wl_ok (r_move (v := (.int .i64 (0))) rfl) (wl_nil (then_normal (wc_block ?_))))))))))
  have hli3 := (h.srS 1 rfl).len_le
  refine wc_lp (σ := Nat × Int) (inl [4, 5, 13, 14, 15, 16, 17, 18, 19, 20, 21, 22, 23, 24, 25]) (fun ⟨k2, i3⟩ => [(13, (.int .i64 (i3)))]) (fun ⟨k2, i3⟩ w => SH w0 M BE w (hset [(1, .sr rByte va a), (2, .sr rByte vb b)]) ∧ i3 = (k2 : Int) ∧ upto (slices_Equal_byte_b3 a b) slices_Equal_byte_k4 i3 (((a.length : Int)).toNat - k2) () = some r) (fun ⟨k2, i3⟩ => ((a.length : Int)).toNat - k2) ⟨0, 0⟩ ⟨rfl, trivial⟩ ?_ ?_
  ·
   exact ⟨h.cn _, rfl, hs⟩
  ·
   rintro ⟨k2, i3⟩ w junk ⟨h, hik, hs⟩
   refine wc_seq (wc_region ?_)
   refine wl_ok (r_lss rfl rfl) (wl_nil (then_normal ?_))
   refine wc_seq (wc_if rfl (fun e7 => ?_) (fun e7 => ?_))
   ·
    refine wc_skip (then_normal ?_)
    rw [upto_lt (by have := of_decide_eq_true e7; omega)] at hs
    generalize hnx6 : upto (slices_Equal_byte_b3 a b) slices_Equal_byte_k4 (i3 + 1) (((a.length : Int)).toNat - (k2 + 1)) = nx6 at hs
    have e8r : I64 (i3 + 1) := (by have := of_decide_eq_true e7; have := hli3; exact I64.mk (by omega) (by omega))
    refine wc_seq (wc_block (wc_seq (wc_region (wl_ok (r_move (v := (.int .i64 (i3))) rfl) (wl_ok (r_assign (v := (.int .i64 (i3))) rfl) (wl_nil (then_normal (wc_seq (wc_still mixed (by kernel_rfl) h fun w h => wk_ok (r_move (v := va) rfl) (wk_ok (r_move (v := (.int .i64 (i3))) rfl) ?_))))))))))
    obtain ⟨x9, e10, hs⟩ := o_bind hs
    obtain ⟨b12, o13, cs14, h, r15, i11⟩ := h.ixS 1 3 rfl SliceOf35 rfl (o_idx e10).1 (o_idx e10).2
    obtain rfl := r15
    refine wk_ok (i11 _ _ _ _ _ _ _ _ _ rfl rfl) (wk_ok (r_ldP (k := 0) h 3 rfl One5 rfl rfl) (wk_ok (r_move (v := vb) rfl) (wk_ok (r_move (v := (.int .i64 (i3))) rfl) ?_)))
    obtain ⟨x16, e17, hs⟩ := o_bind hs
    obtain ⟨b19, o20, cs21, h, r22, i18⟩ := h.ixS 2 4 rfl SliceOf35 rfl (o_idx e17).1 (o_idx e17).2
    obtain rfl := r22
    refine wk_ok (i18 _ _ _ _ _ _ _ _ _ rfl rfl) (wk_ok (r_ldP (k := 0) h 4 rfl One5 rfl rfl) (wk_ok (r_neq rfl rfl) (wk_end (then_normal (wc_ifb hs rfl (fun c23 hs => ?_) (fun c23 hs => ?_))))))
    ·
     refine wc_seq (wc_region (wl_ok (r_assign (v := (.bool (false))) rfl) (wl_nil (then_normal (wc_ret (inBlock_ret (then_ret (then_ret (inBlock_ret (then_ret (fin1 (v := (.bool (false))) Tryd.results50 rfl ?_)))))))))))
     obtain rfl := Option.some.inj hs
     exact ⟨h.grown, rfl⟩
    ·
     refine wc_skip (inBlock_normal (then_normal (wc_region (wl_ok (r_add rfl rfl e8r) (wl_ok (r_move (v := (.int .i64 ((i3 + 1)))) rfl) (wl_nil (then_loop ?_)))))))
     subst hnx6
     exact lend ⟨k2 + 1, i3 + 1⟩ ⟨h.cn _, by omega, hs⟩ (by have := of_decide_eq_true e7; dsimp only; omega)
   ·
    rw [upto_ge (by have := of_decide_eq_false e7; omega)] at hs
    refine wc_exit (then_exit (then_exit (inBlock_eq (then_normal (wc_seq (wc_region (wl_ok (r_assign (v := (.bool (true))) rfl) (wl_nil (then_normal (wc_ret (fin1 (v := (.bool (true))) Tryd.results50 rfl ?_)))))))))))
    obtain rfl := Option.some.inj hs
    exact ⟨h.grown, rfl⟩
def disk_Same (a : Disk) (b : Disk) : Option Bool :=
  (slices_Equal_byte a.safe b.safe).bind fun y3 => bif y3 then (slices_Equal_byte a.wait b.wait).bind fun y7 => some y7 else some false
theorem disk_Same_c (w0 : World) (M : BS) (hM : ∀ b, M b → b < w0.heap.size) (a : Disk) (va0 va1 : Value) (ha0 : Rd2 rByte w0 BE M va0 a.safe) (ha1 : Rd2 rByte w0 BE M va1 a.wait) (b : Disk) (vb0 vb1 : Value) (hb0 : Rd2 rByte w0 BE M vb0 b.safe) (hb1 : Rd2 rByte w0 BE M vb1 b.wait) (r : Bool) (hs : disk_Same a b = some r) :
    Calls Tryd.prog 25 #[(.agg #[va0, va1]), (.agg #[vb0, vb1])] w0 (fun e w' => Grow w0 w' ∧ e = .returned (.bool r)) := by
 refine calls_start (args := [(.agg #[va0, va1]), (.agg #[vb0, vb1])]) Tryd.func25 rfl Tryd.ntmps25 (Nat.le_of_ble_eq_true rfl) ?_
 have h := SH.init hM
 replace h := h.argSr 1 ha0 none_own
 replace h := h.argSr 2 ha1 (hupd_own_sr none_own)
 replace h := h.argSr 3 hb0 (hupd_own_sr (hupd_own_sr none_own))
 replace h := h.argSr 4 hb1 (hupd_own_sr (hupd_own_sr (hupd_own_sr none_own)))
 refine wc_seq (wc_region (w_box (cs := [va0, va1]) h 5 rfl rfl fun w b1 h => w_box (cs := [vb0, vb1]) h 6 rfl rfl fun w b2 h => wl_ok (r_assign (v := (.bool (false))) rfl) (wl_nil (then_normal (wc_seq (wc_region (wl_ok (r_fieldAddr Fld37x0 rfl) (wl_ok (r_ldB h 5 rfl One35 rfl rfl) (wl_ok (r_fieldAddr Fld37x0 rfl) (wl_ok (r_ldB h 6 rfl One35 rfl rfl) ?_))))))))))
 obtain ⟨y3, e4, hs⟩ := o_bind hs
 refine w_call fnOk50 rfl rfl (slices_Equal_byte_c _ _ h.lt va0 a.safe (h.srS 1 rfl) vb0 b.safe (h.srS 3 rfl) _ e4) ?_
 rintro _ w ⟨k5, rfl⟩
 refine ⟨_, rfl, ?_⟩
 replace h := h.grow k5
 refine wl_ok (r_move (v := (.bool (y3))) rfl) (c_split (b := y3) hs (fun c6 hs => ?_) (fun c6 hs => ?_))
 ·
  refine wl_on rfl (congrArg Value.bool c6) (wl_ok (r_fieldAddr Fld37x1 rfl) (wl_on rfl (congrArg Value.bool c6) (wl_ok (r_ldB h 5 rfl One35 rfl rfl) (wl_on rfl (congrArg Value.bool c6) (wl_ok (r_fieldAddr Fld37x1 rfl) (wl_on rfl (congrArg Value.bool c6) (wl_ok (r_ldB h 6 rfl One35 rfl rfl) (wl_on rfl (congrArg Value.bool c6) ?_))))))))
  obtain ⟨y7, e8, hs⟩ := o_bind hs
  refine w_call fnOk50 rfl rfl (slices_Equal_byte_c _ _ h.lt va1 a.wait (h.srS 2 rfl) vb1 b.wait (h.srS 4 rfl) _ e8) ?_
  rintro _ w ⟨k9, rfl⟩
  refine ⟨_, rfl, ?_⟩
  replace h := h.grow k9
  refine wl_ok (r_pick (b := true) (v := (.bool (y7))) (congrArg Value.bool c6) rfl) (wl_ok (r_assign (v := (.bool (y7))) rfl) (wl_nil (then_normal (wc_ret (fin1 (v := (.bool (y7))) Tryd.results25 rfl ?_)))))
  obtain rfl := Option.some.inj hs
  exact ⟨h.grown, rfl⟩
 ·
  refine wl_off (b' := false) rfl (congrArg Value.bool c6) rfl (wl_off (b' := false) rfl (congrArg Value.bool c6) rfl (wl_off (b' := false) rfl (congrArg Value.bool c6) rfl (wl_off (b' := false) rfl (congrArg Value.bool c6) rfl (wl_off (b' := false) rfl (congrArg Value.bool c6) rfl (wl_ok (r_pick (b := false) (v := (.bool (false))) (congrArg Value.bool c6) rfl) (wl_ok (r_assign (v := (.bool (false))) rfl) (wl_nil (then_normal (wc_ret (fin1 (v := (.bool (false))) Tryd.results25 rfl ?_))))))))))
  obtain rfl := Option.some.inj hs
  exact ⟨h.grown, rfl⟩
def wandererref_SameDisk (a : Disk) (b : Disk) : Option Bool :=
  (slices_Equal_byte a.safe b.safe).bind fun y3 => bif y3 then (slices_Equal_byte a.wait b.wait).bind fun y7 => some y7 else some false
theorem wandererref_SameDisk_c (w0 : World) (M : BS) (hM : ∀ b, M b → b < w0.heap.size) (a : Disk) (va0 va1 : Value) (ha0 : Rd2 rByte w0 BE M va0 a.safe) (ha1 : Rd2 rByte w0 BE M va1 a.wait) (b : Disk) (vb0 vb1 : Value) (hb0 : Rd2 rByte w0 BE M vb0 b.safe) (hb1 : Rd2 rByte w0 BE M vb1 b.wait) (r : Bool) (hs : wandererref_SameDisk a b = some r) :
    Calls Tryd.prog 28 #[(.agg #[va0, va1]), (.agg #[vb0, vb1])] w0 (fun e w' => Grow w0 w' ∧ e = .returned (.bool r)) := by
 refine calls_start (args := [(.agg #[va0, va1]), (.agg #[vb0, vb1])]) Tryd.func28 rfl Tryd.ntmps28 (Nat.le_of_ble_eq_true rfl) ?_
 have h := SH.init hM
 replace h := h.argSr 1 ha0 none_own
 replace h := h.argSr 2 ha1 (hupd_own_sr none_own)
 replace h := h.argSr 3 hb0 (hupd_own_sr (hupd_own_sr none_own))
 replace h := h.argSr 4 hb1 (hupd_own_sr (hupd_own_sr (hupd_own_sr none_own)))
 refine wc_seq (wc_region (w_box (cs := [va0, va1]) h 5 rfl rfl fun w b1 h => w_box (cs := [vb0, vb1]) h 6 rfl rfl fun w b2 h => wl_ok (r_assign (v := (.bool (false))) rfl) (wl_nil (then_normal (wc_seq (wc_region (wl_ok (r_fieldAddr Fld37x0 rfl) (wl_ok (r_ldB h 5 rfl One35 rfl rfl) (wl_ok (r_fieldAddr Fld37x0 rfl) (wl_ok (r_ldB h 6 rfl One35 rfl rfl) ?_))))))))))
 obtain ⟨y3, e4, hs⟩ := o_bind hs
 refine w_call fnOk50 rfl rfl (slices_Equal_byte_c _ _ h.lt va0 a.safe (h.srS 1 rfl) vb0 b.safe (h.srS 3 rfl) _ e4) ?_
 rintro _ w ⟨k5, rfl⟩
 refine ⟨_, rfl, ?_⟩
 replace h := h.grow k5
 refine wl_ok (r_move (v := (.bool (y3))) rfl) (c_split (b := y3) hs (fun c6 hs => ?_) (fun c6 hs => ?_))
 ·
  refine wl_on rfl (congrArg Value.bool c6) (wl_ok (r_fieldAddr Fld37x1 rfl) (wl_on rfl (congrArg Value.bool c6) (wl_ok (r_ldB h 5 rfl One35 rfl rfl) (wl_on rfl (congrArg Value.bool c6) (wl_ok (r_fieldAddr Fld37x1 rfl) (wl_on rfl (congrArg Value.bool c6) (wl_ok (r_ldB h 6 rfl One35 rfl rfl) (wl_on rfl (congrArg Value.bool c6) ?_))))))))
  obtain ⟨y7, e8, hs⟩ := o_bind hs
  refine w_call fnOk50 rfl rfl (slices_Equal_byte_c _ _ h.lt va1 a.wait (h.srS 2 rfl) vb1 b.wait (h.srS 4 rfl) _ e8) ?_
  rintro _ w ⟨k9, rfl⟩
  refine ⟨_, rfl, ?_⟩
  replace h := h.grow k9
  refine wl_ok (r_pick (b := true) (v := (.bool (y7))) (congrArg Value.bool c6) rfl) (wl_ok (r_assign (v := (.bool (y7))) rfl) (wl_nil (then_normal (wc_ret (fin1 (v := (.bool (y7))) Tryd.results28 rfl ?_)))))
  obtain rfl := Option.some.inj hs
  exact ⟨h.grown, rfl⟩
 ·
  refine wl_off (b' := false) rfl (congrArg Value.bool c6) rfl (wl_off (b' := false) rfl (congrArg Value.bool c6) rfl (wl_off (b' := false) rfl (congrArg Value.bool c6) rfl (wl_off (b' := false) rfl (congrArg Value.bool c6) rfl (wl_off (b' := false) rfl (congrArg Value.bool c6) rfl (wl_ok (r_pick (b := false) (v := (.bool (false))) (congrArg Value.bool c6) rfl) (wl_ok (r_assign (v := (.bool (false))) rfl) (wl_nil (then_normal (wc_ret (fin1 (v := (.bool (false))) Tryd.results28 rfl ?_))))))))))
  obtain rfl := Option.some.inj hs
  exact ⟨h.grown, rfl⟩
def wandererref_PutOn (a : Disk) (b : Rec) : Option (Disk × Int) :=
  (wandererref_RecText b).bind fun y4 => bif decide ((y4.2 : Int) ≠ 0) then some ((⟨[], []⟩ : Disk), y4.2) else grd (I64 ((a.safe.length : Int) + (a.wait.length : Int))) (grd (I64 (((a.safe.length : Int) + (a.wait.length : Int)) + (y4.1.length : Int))) (grd (I64 ((((a.safe.length : Int) + (a.wait.length : Int)) + (y4.1.length : Int)) + 1)) (bif decide ((60000 : Int) < ((((a.safe.length : Int) + (a.wait.length : Int)) + (y4.1.length : Int)) + 1)) then some ((⟨[], []⟩ : Disk), 2) else grd (y4.1.length + [10].length ≤ 9223372036854775807) (grd ((y4.1 ++ [10]).length ≤ 140737488355328) ((slices_Concat_byte [a.wait, (y4.1 ++ [10])]).bind fun yq15x8_1 => some ((⟨a.safe, yq15x8_1⟩ : Disk), 0))))))
theorem wandererref_PutOn_c (w0 : World) (M : BS) (hM : ∀ b, M b → b < w0.heap.size) (hT : Tabs Tryd.prog 3 w0) (a : Disk) (va0 va1 : Value) (ha0 : RdSl rByte w0 M va0 a.safe) (ha1 : RdSl rByte w0 M va1 a.wait) (b : Rec) (vb4 vb5 : Value) (hb4 : RdSl rInt w0 M vb4 b.says) (hb5 : RdSl rInt w0 M vb5 b.image) (r : Disk × Int) (hs : wandererref_PutOn a b = some r) :
    Calls Tryd.prog 29 #[(.agg #[va0, va1]), (.agg #[(.int .i64 (b.kind)), (.int .i64 (b.co)), (.int .i64 (b.epoch)), (.int .i64 (b.place)), vb4, vb5])] w0 (fun e w' => Grow w0 w' ∧ ∃ u0_0, ∃ u0_1, e = .returned (.tuple #[.agg #[u0_0, u0_1], .int .i64 r.2]) ∧ RdSl rByte w' M u0_0 r.1.safe ∧ RdSl rByte w' M u0_1 r.1.wait) := by
 refine calls_start (args := [(.agg #[va0, va1]), (.agg #[(.int .i64 (b.kind)), (.int .i64 (b.co)), (.int .i64 (b.epoch)), (.int .i64 (b.place)), vb4, vb5])]) Tryd.func29 rfl Tryd.ntmps29 (Nat.le_of_ble_eq_true rfl) ?_
 have h := SH.init hM
 replace h := h.argRd 1 ha0 none_own
 replace h := h.argRd 2 ha1 (hupd_own_rd none_own)
 replace h := h.argRd 3 hb4 (hupd_own_rd (hupd_own_rd none_own))
 replace h := h.argRd 4 hb5 (hupd_own_rd (hupd_own_rd (hupd_own_rd none_own)))
 refine wc_seq (wc_region (w_box (cs := [va0, va1]) h 5 rfl rfl fun w b1 h => w_box (cs := [(.int .i64 (b.kind)), (.int .i64 (b.co)), (.int .i64 (b.epoch)), (.int .i64 (b.place)), vb4, vb5]) h 6 rfl rfl fun w b2 h => w_allocN h 7 Many37 fun w b3 h => wl_ok (r_assign (v := (.int .i64 (0))) rfl) (wl_nil (then_normal (wc_seq (wc_region (wl_ok (r_ldBN (vs := [(.int .i64 (b.kind)), (.int .i64 (b.co)), (.int .i64 (b.epoch)), (.int .i64 (b.place)), vb4, vb5]) h 6 rfl Many24 rfl rfl rfl) ?_)))))))
 obtain ⟨y4, e5, hs⟩ := o_bind hs
 refine w_call fnOk12 rfl rfl (wandererref_RecText_c _ _ h.lt (hT.go h.keep) b vb4 vb5 (h.rdAt 3 rfl) (h.rdAt 4 rfl) _ e5) ?_
 rintro _ w ⟨k6, rfl⟩
 refine ⟨_, rfl, ?_⟩
 replace h := h.grow k6
 refine wl_ok (r_move (v := (.tuple #[(strV y4.1), (.int .i64 (y4.2))])) rfl) (wl_ok (r_extract rfl rfl) (wl_ok (r_extract rfl rfl) (wl_ok (r_assign (v := (strV y4.1)) rfl) (wl_ok (r_assign (v := (.int .i64 (y4.2))) rfl) (wl_nil (then_normal (wc_seq (wc_seq (wc_region (wl_ok (r_move (v := (.int .i64 (y4.2))) rfl) (wl_ok (r_neq rfl rfl) (wl_nil (then_normal (wc_ifb hs rfl (fun c7 hs => ?_) (fun c7 hs => ?_)))))))))))))))
 ·
  refine wc_seq (wc_region (wl_ok (r_build (pv := []) (out := [(.slice none 0 0), (.slice none 0 0)]) Struct37 rfl rfl) (wl_ok (r_move (v := (.int .i64 (y4.2))) rfl) (w_stN (vs := [(.slice none 0 0), (.slice none 0 0)]) h 7 [(.slice none 0 0), (.slice none 0 0)] rfl Many37 rfl rfl rfl rfl rfl (ones_cons rfl (ones_cons rfl ones_nil)) fun w h => wl_ok (r_assign (v := (.int .i64 (y4.2))) rfl) (wl_nil (then_normal (wc_ret (then_ret (fin_ct (vs := [(.slice none 0 0), (.slice none 0 0)]) (v2 := (.int .i64 (y4.2))) Tryd.results29 rfl rfl h 7 rfl Many37 rfl ?_)))))))))
  obtain rfl := Option.some.inj hs
  exact ⟨h.grown, _, _, rfl, Rd2.nil, Rd2.nil⟩
 ·
  refine wc_skip (then_normal (wc_seq (wc_seq (wc_region (wl_ok (r_fieldAddr Fld37x0 rfl) (wl_ok (r_ldB h 5 rfl One35 rfl rfl) (wl_ok (r_len SliceOf35 rfl (h.rdS 1 rfl)) (wl_ok (r_fieldAddr Fld37x1 rfl) (wl_ok (r_ldB h 5 rfl One35 rfl rfl) (wl_ok (r_len SliceOf35 rfl (h.rdS 2 rfl)) ?_))))))))))
  obtain ⟨a8, hs⟩ := o_grd hs
  refine wl_ok (r_add rfl rfl a8) (wl_ok (r_move (v := (strV y4.1)) rfl) (wl_ok (r_lenS Tryd.underlying9 rfl) ?_))
  obtain ⟨a9, hs⟩ := o_grd hs
  refine wl_ok (r_add rfl rfl a9) ?_
  obtain ⟨a10, hs⟩ := o_grd hs
  refine wl_ok (r_add rfl rfl a10) (wl_ok (r_gtr rfl rfl) (wl_nil (then_normal (wc_ifb hs rfl (fun c11 hs => ?_) (fun c11 hs => ?_)))))
  ·
   refine wc_seq (wc_region (wl_ok (r_build (pv := []) (out := [(.slice none 0 0), (.slice none 0 0)]) Struct37 rfl rfl) (w_stN (vs := [(.slice none 0 0), (.slice none 0 0)]) h 7 [(.slice none 0 0), (.slice none 0 0)] rfl Many37 rfl rfl rfl rfl rfl (ones_cons rfl (ones_cons rfl ones_nil)) fun w h => wl_ok (r_assign (v := (.int .i64 (2))) rfl) (wl_nil (then_normal (wc_ret (then_ret (fin_ct (vs := [(.slice none 0 0), (.slice none 0 0)]) (v2 := (.int .i64 (2))) Tryd.results29 rfl rfl h 7 rfl Many37 rfl ?_))))))))
   obtain rfl := Option.some.inj hs
   exact ⟨h.grown, _, _, rfl, Rd2.nil, Rd2.nil⟩
  ·
   refine wc_skip (then_normal (wc_seq (wck_held (L := (fun x => x = b3)) mixed h fun w h => whk_ok 0 (Keep.refl _ _) rfl want_none (by kernel_rfl) (by kernel_rfl) (by kernel_rfl) (fun w hk => r_fieldAddr Fld37x0 rfl) (whk_ok 1 (Keep.refl _ _) rfl want_none (by kernel_rfl) (by kernel_rfl) (by kernel_rfl) (fun w hk => have h := h.loseC 7 rfl hk; r_ldB h 5 rfl One35 rfl rfl) (whk_ok 2 (Keep.refl _ _) rfl want_none (by kernel_rfl) (by kernel_rfl) (by kernel_rfl) (fun w hk => r_fieldAddr Fld37x1 rfl) (whk_ok 3 (Keep.refl _ _) rfl want_none (by kernel_rfl) (by kernel_rfl) (by kernel_rfl) (fun w hk => have h := h.loseC 7 rfl hk; r_ldB h 5 rfl One35 rfl rfl) (whk_ok 4 (Keep.refl _ _) rfl want_none (by kernel_rfl) (by kernel_rfl) (by kernel_rfl) (fun w hk => r_move (v := (strV y4.1)) rfl) ?_)))))))
   obtain ⟨aq15x5_1, hs⟩ := o_grd hs
   refine whk_ok 5 (Keep.refl _ _) rfl want_none (by kernel_rfl) (by kernel_rfl) (by kernel_rfl) (fun w hk => r_adds rfl rfl aq15x5_1) ?_
   obtain ⟨ws16, ws16e⟩ : ∃ x, x = w := ⟨_, rfl⟩
   have hg17 : Keep (fun x => x = b3) ws16 w := ws16e ▸ Keep.refl (fun x => x = b3) w
   refine whk_at ws16e.symm (whk_eff 6 (by kernel_rfl) rfl want_none ?_)
   obtain ⟨aq15x6_2, hs⟩ := o_grd hs
   refine w_s2b h 80 Tryd.underlying9 Tryd.underlying35 Tryd.underlying5 rfl aq15x6_2 fun w uq15x6_1 h kq15x6_3 => ?_
   replace hg17 := hg17.grow kq15x6_3
   refine wl_nil (whk_back hg17 (whk_eff 7 (by kernel_rfl) rfl want_none (w_bsG (R := (rSl rByte)) (vs := [va1, uq15x6_1]) (xs := [a.wait, (y4.1 ++ [10])]) h 92 ElemOf107 rfl rfl rfl ⟨(h.rdAt 2 rfl).rdc, ⟨(h.rdAt 80 rfl).rdc, trivial⟩⟩ rfl fun w uq15x7_1 h uq15x7_1k uq15x7_1f => ?_)))
   have uq15x7_1q : ∀ b, ob uq15x7_1 b → ws16.heap.size ≤ b := fun b hb => Nat.le_trans hg17.size (uq15x7_1f b hb)
   replace hg17 := hg17.grow uq15x7_1k
   refine wl_nil (whk_back hg17 (whk_eff 8 (by kernel_rfl) rfl want_none ?_))
   obtain ⟨yq15x8_1, eq15x8_2, hs⟩ := o_bind hs
   refine w_call fnOk47 rfl rfl (slices_Concat_byte_c _ _ h.lt uq15x7_1 [a.wait, (y4.1 ++ [10])] (h.ownS 92 rfl) _ eq15x8_2) ?_
   rintro _ w ⟨kq15x8_6, uq15x8_3, rfl, gq15x8_4, gq15x8_5⟩
   refine ⟨_, rfl, ?_⟩
   replace h := h.gotOwn 104 kq15x8_6 gq15x8_4 gq15x8_5
   have uq15x8_3q : ∀ b, ob uq15x8_3 b → ws16.heap.size ≤ b := fun b hb => Nat.le_trans hg17.size (gq15x8_5 b hb)
   replace hg17 := hg17.grow kq15x8_6
   refine wl_nil (whk_back hg17 (whk_ok 9 hg17 rfl want_none (by kernel_rfl) (by kernel_rfl) (by kernel_rfl) (fun w hk => r_build (pv := [(0, va0), (1, uq15x8_3)]) (out := [va0, uq15x8_3]) Struct37 rfl ⟨0, 1, [va0], rfl, (toList_of_one (h.rdAt 1 rfl).one), rfl, Nat.le_of_ble_eq_true rfl, ⟨1, 1, [uq15x8_3], rfl, (toList_of_one (h.ownAt 104 rfl).one), rfl, Nat.le_of_ble_eq_true rfl, rfl⟩⟩) (whk_eff 10 (by kernel_rfl) rfl want_none (w_stNG (vs := [va0, uq15x8_3]) h 7 [va0, uq15x8_3] rfl Many37 rfl rfl rfl rfl rfl (ones_cons (h.rdAt 1 rfl).one (ones_cons (h.ownAt 104 rfl).one ones_nil)) fun w h kq15x10_1 => ?_))))
   replace hg17 := hg17.same kq15x10_1
   refine wl_nil (whk_back hg17 (whk_ok 11 hg17 rfl want_none (by kernel_rfl) (by kernel_rfl) (by kernel_rfl) (fun w hk => r_assign (v := (.int .i64 (0))) rfl) (whk_done (by kernel_rfl) (then_normal (wc_ret (fin_ct (vs := [va0, uq15x8_3]) (v2 := (.int .i64 (0))) Tryd.results29 rfl rfl h 7 rfl Many37 rfl ?_))))))
   replace h := h.freeze 104 rfl
   obtain rfl := Option.some.inj hs
   exact ⟨h.grown, _, _, rfl, h.outRd 1 rfl, h.outRd 104 rfl⟩
def wandererref_Synced (a : Disk) : Option (Disk × Int) :=
  (slices_Concat_byte [a.safe, a.wait]).bind fun y4 => (wandererref_CheckDisk (⟨y4, []⟩ : Disk)).bind fun y10 => bif decide ((y10 : Int) ≠ 0) then some ((⟨[], []⟩ : Disk), y10) else some ((⟨y4, []⟩ : Disk), 0)
theorem wandererref_Synced_c (w0 : World) (M : BS) (hM : ∀ b, M b → b < w0.heap.size) (hT : Tabs Tryd.prog 3 w0) (a : Disk) (va0 va1 : Value) (ha0 : RdSl rByte w0 M va0 a.safe) (ha1 : RdSl rByte w0 M va1 a.wait) (r : Disk × Int) (hs : wandererref_Synced a = some r) :
    Calls Tryd.prog 30 #[(.agg #[va0, va1])] w0 (fun e w' => Grow w0 w' ∧ ∃ u0_0, ∃ u0_1, e = .returned (.tuple #[.agg #[u0_0, u0_1], .int .i64 r.2]) ∧ RdSl rByte w' M u0_0 r.1.safe ∧ RdSl rByte w' M u0_1 r.1.wait) := by
 refine calls_start (args := [(.agg #[va0, va1])]) Tryd.func30 rfl Tryd.ntmps30 (Nat.le_of_ble_eq_true rfl) ?_
 have h := SH.init hM
 replace h := h.argRd 1 ha0 none_own
 replace h := h.argRd 2 ha1 (hupd_own_rd none_own)
 refine wc_seq (wc_region (w_box (cs := [va0, va1]) h 3 rfl rfl fun w b1 h => w_allocN h 4 Many37 fun w b2 h => wl_ok (r_assign (v := (.int .i64 (0))) rfl) (wl_nil (then_normal (wc_seq (wc_region (wl_ok (r_fieldAddr Fld37x0 rfl) (wl_ok (r_ldB h 3 rfl One35 rfl rfl) (wl_ok (r_fieldAddr Fld37x1 rfl) (wl_ok (r_ldB h 3 rfl One35 rfl rfl) (w_bs (R := (rSl rByte)) (vs := [va0, va1]) (xs := [a.safe, a.wait]) h 5 ElemOf107 rfl rfl rfl ⟨(h.rdAt 1 rfl).rdc, ⟨(h.rdAt 2 rfl).rdc, trivial⟩⟩ rfl fun w u3 h => ?_)))))))))))
 obtain ⟨y4, e5, hs⟩ := o_bind hs
 refine w_call fnOk47 rfl rfl (slices_Concat_byte_c _ _ h.lt u3 [a.safe, a.wait] (h.ownS 5 rfl) _ e5) ?_
 rintro _ w ⟨k9, u6, rfl, g7, g8⟩
 refine ⟨_, rfl, ?_⟩
 replace h := h.gotOwn 6 k9 g7 g8
 refine wl_ok (r_build (pv := [(0, u6)]) (out := [u6, (.slice none 0 0)]) Struct37 rfl ⟨0, 1, [u6], rfl, (toList_of_one (h.ownAt 6 rfl).one), rfl, Nat.le_of_ble_eq_true rfl, rfl⟩) (w_stN (vs := [u6, (.slice none 0 0)]) h 3 [u6, (.slice none 0 0)] rfl Many37 rfl rfl rfl rfl rfl (ones_cons (h.ownAt 6 rfl).one (ones_cons rfl ones_nil)) fun w h => wl_nil (then_normal (wc_seq (wc_seq (wc_region (wl_ok (r_ldBN (vs := [u6, (.slice none 0 0)]) h 3 rfl Many37 rfl rfl rfl) ?_))))))
 obtain ⟨y10, e11, hs⟩ := o_bind hs
 refine w_call fnOk26 rfl rfl (wandererref_CheckDisk_c _ _ h.lt (hT.go h.keep) (⟨y4, []⟩ : Disk) u6 (.slice none 0 0) (h.ownS 6 rfl) Rd2.nil _ e11) ?_
 rintro _ w ⟨k12, rfl⟩
 refine ⟨_, rfl, ?_⟩
 replace h := h.grow k12
 refine wl_ok (r_assign (v := (.int .i64 (y10))) rfl) (wl_nil (then_normal (wc_seq (wc_region (wl_ok (r_move (v := (.int .i64 (y10))) rfl) (wl_ok (r_neq rfl rfl) (wl_nil (then_normal (wc_ifb hs rfl (fun c13 hs => ?_) (fun c13 hs => ?_))))))))))
 ·
  refine wc_seq (wc_region (wl_ok (r_build (pv := []) (out := [(.slice none 0 0), (.slice none 0 0)]) Struct37 rfl rfl) (wl_ok (r_move (v := (.int .i64 (y10))) rfl) (w_stN (vs := [(.slice none 0 0), (.slice none 0 0)]) h 4 [(.slice none 0 0), (.slice none 0 0)] rfl Many37 rfl rfl rfl rfl rfl (ones_cons rfl (ones_cons rfl ones_nil)) fun w h => wl_ok (r_assign (v := (.int .i64 (y10))) rfl) (wl_nil (then_normal (wc_ret (then_ret (fin_ct (vs := [(.slice none 0 0), (.slice none 0 0)]) (v2 := (.int .i64 (y10))) Tryd.results30 rfl rfl h 4 rfl Many37 rfl ?_)))))))))
  obtain rfl := Option.some.inj hs
  exact ⟨h.grown, _, _, rfl, Rd2.nil, Rd2.nil⟩
 ·
  refine wc_skip (then_normal (wc_seq (wc_region (wl_ok (r_ldBN (vs := [u6, (.slice none 0 0)]) h 3 rfl Many37 rfl rfl rfl) (w_stN (vs := [u6, (.slice none 0 0)]) h 4 [u6, (.slice none 0 0)] rfl Many37 rfl rfl rfl rfl rfl (ones_cons (h.ownAt 6 rfl).one (ones_cons rfl ones_nil)) fun w h => wl_ok (r_assign (v := (.int .i64 (0))) rfl) (wl_nil (then_normal (wc_ret (fin_ct (vs := [u6, (.slice none 0 0)]) (v2 := (.int .i64 (0))) Tryd.results30 rfl rfl h 4 rfl Many37 rfl ?_)))))))))
  replace h := h.freeze 6 rfl
  obtain rfl := Option.some.inj hs
  exact ⟨h.grown, _, _, rfl, h.outRd 6 rfl, Rd2.nil⟩
theorem slices_Grow_Rec_c (w0 : World) (M : BS) (hM : ∀ b, M b → b < w0.heap.size) (a : Int) (r : List Rec) (hs : growN 80 a = some r) :
    Calls Tryd.prog 49 #[.slice none 0 0, .int .i64 a] w0 (fun e w' => Grow w0 w' ∧ ∃ u, e = .returned u ∧ OwnSl rRec 24 w' M u r ∧ (∀ b, ob u b → w0.heap.size ≤ b)) := by
  obtain ⟨hr, hs⟩ := o_grd hs
  cases hs
  obtain ⟨k, rfl⟩ := Int.eq_ofNat_of_zero_le hr.1
  have hkb : k * 80 ≤ 140737488355328 := by omega
  refine calls_start (args := [.slice none 0 0, .int .i64 (k : Int)]) Tryd.func49 rfl Tryd.ntmps49 (Nat.le_of_ble_eq_true rfl) ?_
  refine wc_seq (wc_region (wl_ok (r_assign (v := .slice none 0 0) rfl) (wl_nil (then_normal ?_))))
  refine wc_seq (wc_seq (wc_region (wl_ok (r_move (v := .int .i64 (k : Int)) rfl) (wl_ok (r_lss (p := (k : Int)) (q := 0) rfl rfl) (wl_nil (then_normal ?_))))))
  refine wc_if rfl (fun c => absurd (of_decide_eq_true c) (by omega)) (fun _ => wc_skip (then_normal ?_))
  refine wc_seq (wc_seq (wc_region ?_))
  refine wl_ok (r_move (v := .int .i64 (k : Int)) rfl) (wl_ok (r_move (v := .slice none 0 0) rfl) (wl_ok (r_cap (a := none) (l := 0) (c := 0) SliceOf34 rfl) (wl_ok (r_move (v := .slice none 0 0) rfl) (wl_ok (r_len_slice (a := none) (l := 0) (c := 0) SliceOf34 rfl) (wl_ok (r_sub (p := 0) (q := 0) rfl rfl (by decide)) (wl_ok (r_sub (p := (k : Int)) (q := 0 - 0) rfl rfl (by omega)) (wl_ok (r_assign (v := .int .i64 ((k : Int) - (0 - 0))) rfl) (wl_nil (then_normal ?_)))))))))
  refine wc_seq (wc_region (wl_ok (r_move (v := .int .i64 ((k : Int) - (0 - 0))) rfl) (wl_ok (r_gtr (p := (k : Int) - (0 - 0)) (q := 0) rfl rfl) (wl_nil (then_normal ?_)))))
  refine wc_if rfl (fun c => ?_) (fun c => ?_)
  · have hk : 0 < k := by have := of_decide_eq_true c; omega
    refine wc_region ?_
    refine wl_ok (r_move (v := .slice none 0 0) rfl) (wl_ok (r_move (v := .slice none 0 0) rfl) (wl_ok (r_cap (a := none) (l := 0) (c := 0) SliceOf34 rfl) (wl_ok (r_sliceTo (b := 0) (ad := none) (len := 0) (cap := 0) SliceOf34 rfl (.inl rfl) (.inl ⟨rfl, rfl⟩) rfl (Nat.le_refl _)) (wl_ok (r_move (v := .int .i64 (k : Nat)) (congrArg (Value.int .i64) (by omega))) ?_))))
    refine wl_growNil (R := rRec) (A := M) (k := k) ElemOf34 rfl Tryd.underlying3 rfl rfl hk (by decide) hkb fun w gg cap hg h1 h2 h3 ho => ?_
    refine wl_ok (r_move (v := .slice none 0 0) rfl) (wl_ok (r_len_slice (a := none) (l := 0) (c := 0) SliceOf34 rfl) (wl_ok (r_sliceTo (b := 0) (ad := some ⟨gg, 0, none⟩) (len := k) (cap := cap) SliceOf34 rfl (.inr ⟨gg, rfl⟩) (.inl ⟨rfl, rfl⟩) rfl (Nat.zero_le _)) (wl_ok (r_assign (v := .slice (some ⟨gg, 0, none⟩) 0 cap) rfl) (wl_nil (then_normal ?_)))))
    refine wc_seq (wc_region (wl_ok (r_move (v := .slice (some ⟨gg, 0, none⟩) 0 cap) rfl) (wl_ok (r_assign (v := .slice (some ⟨gg, 0, none⟩) 0 cap) rfl) (wl_nil (then_normal (wc_ret ?_))))))
    exact fin1 (v := .slice (some ⟨gg, 0, none⟩) 0 cap) Tryd.results49 rfl ⟨hg, _, rfl, ho, fun b hb => by have : b = gg := hb; omega⟩
  · refine wc_skip (then_normal (wc_seq (wc_region (wl_ok (r_move (v := .slice none 0 0) rfl) (wl_ok (r_assign (v := .slice none 0 0) rfl) (wl_nil (then_normal (wc_ret ?_))))))))
    exact fin1 (v := .slice none 0 0) Tryd.results49 rfl ⟨Keep.refl _ _, _, rfl, OwnSl.nil, fresh_nil⟩
def slices_Concat_Rec_b5 (x37 : List Rec) (x34 : List Rec) (nx39 : List Rec → Option (List Rec)) : Option (List Rec) :=
  grd (Room 80 x34 x37) (nx39 (x34 ++ x37))
def slices_Concat_Rec_k6 (x34 : List Rec) : Option (List Rec) :=
  some x34
def slices_Concat_Rec_b7 (x7 : List Rec) (x4 : Int) (nx9 : Int → Option (List Rec)) : Option (List Rec) :=
  grd (I64 (x4 + (x7.length : Int))) (bif decide (((x4 + (x7.length : Int)) : Int) < 0) then none else nx9 (x4 + (x7.length : Int)))
def slices_Concat_Rec_k8 (a : List (List Rec)) (x4 : Int) : Option (List Rec) :=
  (growN 80 x4).bind fun y21 => each slices_Concat_Rec_b5 slices_Concat_Rec_k6 a y21
def slices_Concat_Rec (a : List (List Rec)) : Option (List Rec) :=
  each slices_Concat_Rec_b7 (slices_Concat_Rec_k8 a) a 0
theorem slices_Concat_Rec_c (w0 : World) (M : BS) (hM : ∀ b, M b → b < w0.heap.size) (va : Value) (a : List (List Rec)) (ha : Rd2 (rSl rRec) w0 BE M va a) (r : List Rec) (hs : slices_Concat_Rec a = some r) :
    Calls Tryd.prog 24 #[va] w0 (fun e w' => Grow w0 w' ∧ ∃ u0, e = .returned (u0) ∧ OwnSl rRec 24 w' M u0 r ∧ (∀ b, ob u0 b → w0.heap.size ≤ b)) := by
 refine calls_start (args := [va]) Tryd.func24 rfl Tryd.ntmps24 (Nat.le_of_ble_eq_true rfl) ?_
 have h := SH.init hM
 replace h := h.argSr 1 ha none_own
 have hl_a := ha.len_le
 refine wc_seq (wc_region (wl_ok (r_assign (v := (.slice none 0 0)) rfl) (wl_nil (then_normal (wc_seq (wc_region (wl_ok (r_assign (v := (.int .i64 (0))) rfl) (wl_nil (then_normal (wc_seq (wc_seq (wc_region (wl_ok (r_move (v := va) rfl) (wl_ok (r_len SliceOf78 rfl (h.srS 1 rfl)) (wl_ok (r_move (v := (.int .i64 (0))) rfl) (wl_nil (then_normal (wc_block (wc_lp (σ := Nat × Int × Int) (inl [3, 5, 11, 12, 13, 14, 15, 16, 17, 18, 19, 20, 21, 22]) (fun ⟨k5, i6, x4⟩ => [(3, (.int .i64 (x4))), (11, (.int .i64 (i6)))]) (fun ⟨k5, i6, x4⟩ w => SH w0 M BE w (hset [(1, .sr (rSl rRec) va a)]) ∧ i6 = (k5 : Int) ∧ each slices_Concat_Rec_b7 (slices_Concat_Rec_k8 a) (a.drop k5) x4 = some r) (fun ⟨k5, i6, x4⟩ => a.length - k5) ⟨0, 0, 0⟩ ⟨rfl, rfl, trivial⟩ ?_ ?_)))))))))))))))))))
 ·
  exact ⟨h.cn _, rfl, hs⟩
 ·
  rintro ⟨k5, i6, x4⟩ w junk ⟨h, hik, hs⟩
  refine wc_seq (wc_region ?_)
  refine wl_ok (r_lss rfl rfl) (wl_nil (then_normal ?_))
  refine wc_seq (wc_if rfl (fun e10 => ?_) (fun e10 => ?_))
  ·
   refine wc_skip (then_normal ?_)
   obtain ⟨x7, e11a, e11b⟩ := drop_lt (hik ▸ e10)
   rw [e11b, each_cons] at hs
   generalize hnx9 : each slices_Concat_Rec_b7 (slices_Concat_Rec_k8 a) (a.drop (k5 + 1)) = nx9 at hs
   have e11r := nat_rng ((h.srS 1 rfl)).len_le hik e10
   refine wc_seq (wc_block (wc_seq (wc_region ?_)))
   obtain ⟨b13, o14, cs15, h, r16, i12⟩ := h.ixS 1 2 rfl SliceOf78 rfl (nat_nn hik) (get_nat hik e11a)
   obtain ⟨u17, rfl, g18⟩ := r16
   replace h := h.knowRd 3 g18.up
   refine wl_ok (i12 _ _ _ _ _ _ _ _ _ rfl rfl) (wl_ok (r_ldP (k := 0) h 2 rfl One34 rfl rfl) (wl_ok (r_assign (v := u17) rfl) (wl_nil (then_normal (wc_seq (wc_region (wl_ok (r_move (v := (.int .i64 (x4))) rfl) (wl_ok (r_move (v := u17) rfl) (wl_ok (r_len SliceOf34 rfl (h.rdS 3 rfl)) ?_)))))))))
   obtain ⟨a19, hs⟩ := o_grd hs
   refine wl_ok (r_add rfl rfl a19) (wl_ok (r_assign (v := (.int .i64 ((x4 + (x7.length : Int))))) rfl) (wl_nil (then_normal (wc_seq (wc_region (wl_ok (r_move (v := (.int .i64 ((x4 + (x7.length : Int))))) rfl) (wl_ok (r_lss rfl rfl) (wl_nil (then_normal (wc_ifb hs rfl (fun c20 hs => ?_) (fun c20 hs => ?_)))))))))))
   ·
    cases hs
   ·
    refine wc_skip (inBlock_normal (then_normal (wc_region (wl_ok (r_add rfl rfl e11r) (wl_ok (r_move (v := (.int .i64 ((i6 + 1)))) rfl) (wl_nil (then_loop ?_)))))))
    subst hnx9
    exact lend ⟨k5 + 1, i6 + 1, (x4 + (x7.length : Int))⟩ ⟨h.cn _, by omega, hs⟩ (by have := of_decide_eq_true e10; dsimp only; omega)
  ·
   rw [drop_ge (hik ▸ e10), each_nil] at hs
   refine wc_exit (then_exit (then_exit (inBlock_eq (then_normal (wc_seq (wc_region (wl_ok (r_move (v := (.int .i64 (x4))) rfl) ?_)))))))
   obtain ⟨y21, e22, hs⟩ := o_bind hs
   refine w_call fnOk49 rfl rfl (slices_Grow_Rec_c _ _ h.lt x4 _ e22) ?_
   rintro _ w ⟨k26, u23, rfl, g24, g25⟩
   refine ⟨_, rfl, ?_⟩
   replace h := h.gotOwn 4 k26 g24 g25
   refine wl_ok (r_assign (v := u23) rfl) (wl_nil (then_normal (wc_seq (wc_seq (wc_region (wl_ok (r_move (v := va) rfl) (wl_ok (r_len SliceOf78 rfl (h.srS 1 rfl)) (wl_ok (r_move (v := (.int .i64 (0))) rfl) (wl_nil (then_normal (wc_block (wc_lp (σ := Nat × Int × Value × List Rec) (inl [6, 8, 27, 28, 29, 30, 31, 32, 33, 34]) (fun ⟨k35, i36, v33, x34⟩ => [(6, v33), (27, (.int .i64 (i36)))]) (fun ⟨k35, i36, v33, x34⟩ w => SH w0 M BE w (hset [(1, .sr (rSl rRec) va a), (4, .own rRec 24 v33 x34)]) ∧ i36 = (k35 : Int) ∧ each slices_Concat_Rec_b5 slices_Concat_Rec_k6 (a.drop k35) x34 = some r) (fun ⟨k35, i36, v33, x34⟩ => a.length - k35) ⟨0, 0, u23, y21⟩ ⟨rfl, rfl, trivial⟩ ?_ ?_))))))))))))
   ·
    exact ⟨h.cn _, rfl, hs⟩
   ·
    rintro ⟨k35, i36, v33, x34⟩ w junk ⟨h, hik, hs⟩
    refine wc_seq (wc_region ?_)
    refine wl_ok (r_lss rfl rfl) (wl_nil (then_normal ?_))
    refine wc_seq (wc_if rfl (fun e40 => ?_) (fun e40 => ?_))
    ·
     refine wc_skip (then_normal ?_)
     obtain ⟨x37, e41a, e41b⟩ := drop_lt (hik ▸ e40)
     rw [e41b, each_cons] at hs
     generalize hnx39 : each slices_Concat_Rec_b5 slices_Concat_Rec_k6 (a.drop (k35 + 1)) = nx39 at hs
     have e41r := nat_rng ((h.srS 1 rfl)).len_le hik e40
     refine wc_seq (wc_block (wc_seq (wc_region ?_)))
     obtain ⟨b43, o44, cs45, h, r46, i42⟩ := h.ixS 1 5 rfl SliceOf78 rfl (nat_nn hik) (get_nat hik e41a)
     obtain ⟨u47, rfl, g48⟩ := r46
     replace h := h.knowRd 6 g48.up
     refine wl_ok (i42 _ _ _ _ _ _ _ _ _ rfl rfl) (wl_ok (r_ldP (k := 0) h 5 rfl One34 rfl rfl) (wl_ok (r_assign (v := u47) rfl) (wl_nil (then_normal (wc_region (wl_ok (r_move (v := v33) rfl) (wl_ok (r_move (v := u47) rfl) ?_)))))))
     obtain ⟨a49, hs⟩ := o_grd hs
     refine w_app (R := rRec) (m := x37) h 4 rfl (h.rdS 6 rfl) ElemOf34 rfl rfl rfl a49.1 a49.2 fun w u50 h => wl_ok (r_assign (v := u50) rfl) (wl_nil (inBlock_normal (then_normal (wc_region (wl_ok (r_add rfl rfl e41r) (wl_ok (r_move (v := (.int .i64 ((i36 + 1)))) rfl) (wl_nil (then_loop ?_))))))))
     subst hnx39
     exact lend ⟨k35 + 1, i36 + 1, u50, (x34 ++ x37)⟩ ⟨h.cn _, by omega, hs⟩ (by have := of_decide_eq_true e40; dsimp only; omega)
    ·
     rw [drop_ge (hik ▸ e40), each_nil] at hs
     refine wc_exit (then_exit (then_exit (inBlock_eq (then_normal (wc_seq (wc_region (wl_ok (r_move (v := v33) rfl) (wl_ok (r_assign (v := v33) rfl) (wl_nil (then_normal (wc_ret (fin1 (v := v33) Tryd.results24 rfl ?_))))))))))))
     obtain rfl := Option.some.inj hs
     exact ⟨h.grown, _, rfl, (h.outOwn 4 rfl).1, (h.outOwn 4 rfl).2⟩
def wandererref_Recovered (a : Disk) : Option (Disk × List Rec) :=
  (wandererref_linesOf a.safe 120).bind fun y3 => grd (I64 (120 - (y3.1.length : Int))) ((wandererref_linesOf a.wait (120 - (y3.1.length : Int))).bind fun y10 => (sub? a.wait 0 y10.2.1).bind fun xq17x5_1 => (slices_Concat_byte [a.safe, xq17x5_1]).bind fun yq17x7_1 => (slices_Concat_Rec [y3.1, y10.1]).bind fun yq17x12_1 => some ((⟨yq17x7_1, []⟩ : Disk), yq17x12_1))
theorem wandererref_Recovered_c (w0 : World) (M : BS) (hM : ∀ b, M b → b < w0.heap.size) (hT : Tabs Tryd.prog 3 w0) (a : Disk) (va0 va1 : Value) (ha0 : RdSl rByte w0 M va0 a.safe) (ha1 : RdSl rByte w0 M va1 a.wait) (r : Disk × List Rec) (hs : wandererref_Recovered a = some r) :
    Calls Tryd.prog 31 #[(.agg #[va0, va1])] w0 (fun e w' => Grow w0 w' ∧ ∃ u0_0, ∃ u0_1, ∃ u1, e = .returned (.tuple #[.agg #[u0_0, u0_1], u1]) ∧ RdSl rByte w' (fun b => M b ∨ ob u1 b) u0_0 r.1.safe ∧ RdSl rByte w' (fun b => M b ∨ ob u1 b) u0_1 r.1.wait ∧ OwnSl rRec 24 w' M u1 r.2 ∧ (∀ b, ob u1 b → w0.heap.size ≤ b)) := by
 refine calls_start (args := [(.agg #[va0, va1])]) Tryd.func31 rfl Tryd.ntmps31 (Nat.le_of_ble_eq_true rfl) ?_
 have h := SH.init hM
 replace h := h.argRd 1 ha0 none_own
 replace h := h.argRd 2 ha1 (hupd_own_rd none_own)
 refine wc_seq (wc_region (w_box (cs := [va0, va1]) h 3 rfl rfl fun w b1 h => w_allocN h 4 Many37 fun w b2 h => wl_ok (r_assign (v := (.slice none 0 0)) rfl) (wl_nil (then_normal (wc_seq (wc_region (wl_ok (r_fieldAddr Fld37x0 rfl) (wl_ok (r_ldB h 3 rfl One35 rfl rfl) (wl_ok (r_b2s Tryd.underlying35 Tryd.underlying5 Tryd.underlying9 rfl (h.rdS 1 rfl)) ?_)))))))))
 obtain ⟨y3, e4, hs⟩ := o_bind hs
 refine w_call fnOk51 rfl rfl (wandererref_linesOf_c _ _ h.lt (hT.go h.keep) a.safe 120 _ e4) ?_
 rintro _ w ⟨k8, u5, rfl, g6, g7⟩
 refine ⟨_, rfl, ?_⟩
 replace h := h.gotOwn 5 k8 g6 g7
 refine wl_ok (r_move (v := (.tuple #[u5, (.int .i64 (y3.2.1)), (.int .i64 (y3.2.2))])) rfl) (wl_ok (r_extract rfl rfl) (wl_ok (r_extract rfl rfl) (wl_ok (r_extract rfl rfl) (wl_ok (r_assign (v := u5) rfl) (wl_ok (r_assign (v := (.int .i64 (y3.2.1))) rfl) (wl_ok (r_assign (v := (.int .i64 (y3.2.2))) rfl) (wl_nil (then_normal (wc_seq (wc_region (wl_ok (r_fieldAddr Fld37x1 rfl) (wl_ok (r_ldB h 3 rfl One35 rfl rfl) (wl_ok (r_b2s Tryd.underlying35 Tryd.underlying5 Tryd.underlying9 rfl (h.rdS 2 rfl)) (wl_ok (r_move (v := u5) rfl) (wl_ok (r_len SliceOf34 rfl (h.ownS 5 rfl)) ?_)))))))))))))))
 obtain ⟨a9, hs⟩ := o_grd hs
 refine wl_ok (r_sub rfl rfl a9) ?_
 obtain ⟨y10, e11, hs⟩ := o_bind hs
 refine w_call fnOk51 rfl rfl (wandererref_linesOf_c _ _ h.lt (hT.go h.keep) a.wait (120 - (y3.1.length : Int)) _ e11) ?_
 rintro _ w ⟨k15, u12, rfl, g13, g14⟩
 refine ⟨_, rfl, ?_⟩
 replace h := h.gotOwn 6 k15 g13 g14
 refine wl_ok (r_move (v := (.tuple #[u12, (.int .i64 (y10.2.1)), (.int .i64 (y10.2.2))])) rfl) (wl_ok (r_extract rfl rfl) (wl_ok (r_extract rfl rfl) (wl_ok (r_extract rfl rfl) (wl_ok (r_assign (v := u12) rfl) (wl_ok (r_assign (v := (.int .i64 (y10.2.1))) rfl) (wl_ok (r_assign (v := (.int .i64 (y10.2.2))) rfl) (wl_nil (then_normal (wc_seq (wck_held (L := (fun x => x = b2)) mixed h fun w h => whk_ok 0 (Keep.refl _ _) rfl want_none (by kernel_rfl) (by kernel_rfl) (by kernel_rfl) (fun w hk => r_fieldAddr Fld37x0 rfl) (whk_ok 1 (Keep.refl _ _) rfl want_none (by kernel_rfl) (by kernel_rfl) (by kernel_rfl) (fun w hk => have h := h.loseC 4 rfl hk; r_ldB h 3 rfl One35 rfl rfl) (whk_ok 2 (Keep.refl _ _) rfl want_none (by kernel_rfl) (by kernel_rfl) (by kernel_rfl) (fun w hk => r_fieldAddr Fld37x1 rfl) (whk_ok 3 (Keep.refl _ _) rfl want_none (by kernel_rfl) (by kernel_rfl) (by kernel_rfl) (fun w hk => have h := h.loseC 4 rfl hk; r_ldB h 3 rfl One35 rfl rfl) (whk_ok 4 (Keep.refl _ _) rfl want_none (by kernel_rfl) (by kernel_rfl) (by kernel_rfl) (fun w hk => r_move (v := (.int .i64 (y10.2.1))) rfl) ?_))))))))))))))
 obtain ⟨xq17x5_1, eq17x5_2, hs⟩ := o_bind hs
 obtain ⟨eq17x5_5, eq17x5_5a, eq17x5_5b, eq17x5_5c⟩ := o_sub eq17x5_2
 obtain ⟨uq17x5_3, h, iq17x5_4⟩ := h.slR 2 67 rfl SliceOf35 rfl eq17x5_5a eq17x5_5b eq17x5_5c
 rw [← eq17x5_5] at h
 refine whk_ok 5 (Keep.refl _ _) rfl want_none (by kernel_rfl) (by kernel_rfl) (by kernel_rfl) (fun w hk => iq17x5_4 _ _ _ _ _ _ _ _ _ _ rfl (.inl ⟨rfl, rfl⟩) (.inr (congrArg some rfl))) (whk_ok 9 (Keep.refl _ _) rfl want_none (by kernel_rfl) (by kernel_rfl) (by kernel_rfl) (fun w hk => r_move (v := u5) rfl) (whk_ok 10 (Keep.refl _ _) rfl want_none (by kernel_rfl) (by kernel_rfl) (by kernel_rfl) (fun w hk => r_move (v := u12) rfl) ?_))
 obtain ⟨yq17x7_1, eq17x7_2, hs⟩ := o_bind hs
 obtain ⟨yq17x12_1, eq17x12_2, hs⟩ := o_bind hs
 obtain ⟨ws18, ws18e⟩ : ∃ x, x = w := ⟨_, rfl⟩
 have hg19 : Keep (fun x => x = b2) ws18 w := ws18e ▸ Keep.refl (fun x => x = b2) w
 refine whk_at ws18e.symm (whk_eff2 6 11 (by kernel_rfl) rfl want_none rfl want_none ?_ ?_)
 ·
  refine w_bsG (R := (rSl rByte)) (vs := [va0, uq17x5_3]) (xs := [a.safe, xq17x5_1]) h 79 ElemOf107 rfl rfl rfl ⟨(h.rdAt 1 rfl).rdc, ⟨(h.rdAt 67 rfl).rdc, trivial⟩⟩ rfl fun w uq17x6_1 h uq17x6_1k uq17x6_1f => ?_
  have uq17x6_1q : ∀ b, ob uq17x6_1 b → ws18.heap.size ≤ b := fun b hb => Nat.le_trans hg19.size (uq17x6_1f b hb)
  replace hg19 := hg19.grow uq17x6_1k
  refine wl_nil (whk_back hg19 (whk_eff2 7 11 (by kernel_rfl) rfl want_none rfl want_none ?_ ?_))
  ·
   refine w_call fnOk47 rfl rfl (slices_Concat_byte_c _ _ h.lt uq17x6_1 [a.safe, xq17x5_1] (h.ownS 79 rfl) _ eq17x7_2) ?_
   rintro _ w ⟨kq17x7_6, uq17x7_3, rfl, gq17x7_4, gq17x7_5⟩
   refine ⟨_, rfl, ?_⟩
   replace h := h.gotOwn 91 kq17x7_6 gq17x7_4 gq17x7_5
   have uq17x7_3q : ∀ b, ob uq17x7_3 b → ws18.heap.size ≤ b := fun b hb => Nat.le_trans hg19.size (gq17x7_5 b hb)
   replace hg19 := hg19.grow kq17x7_6
   refine wl_nil (whk_back hg19 (whk_ok 8 hg19 rfl want_none (by kernel_rfl) (by kernel_rfl) (by kernel_rfl) (fun w hk => r_build (pv := [(0, uq17x7_3)]) (out := [uq17x7_3, (.slice none 0 0)]) Struct37 rfl ⟨0, 1, [uq17x7_3], rfl, (toList_of_one (h.ownAt 91 rfl).one), rfl, Nat.le_of_ble_eq_true rfl, rfl⟩) (whk_eff 11 (by kernel_rfl) rfl want_none ?_)))
   replace h := h.freeze 5 rfl
   replace h := h.freeze 6 rfl
   refine w_bsG (R := (rSl rRec)) (vs := [u5, u12]) (xs := [y3.1, y10.1]) h 139 ElemOf78 rfl rfl rfl ⟨(h.rdAt 5 rfl).rdc, ⟨(h.rdAt 6 rfl).rdc, trivial⟩⟩ rfl fun w uq17x11_1 h uq17x11_1k uq17x11_1f => ?_
   have uq17x11_1q : ∀ b, ob uq17x11_1 b → ws18.heap.size ≤ b := fun b hb => Nat.le_trans hg19.size (uq17x11_1f b hb)
   replace hg19 := hg19.grow uq17x11_1k
   refine wl_nil (whk_back hg19 (whk_eff 12 (by kernel_rfl) rfl want_none (w_call fnOk24 rfl rfl (slices_Concat_Rec_c _ _ h.lt uq17x11_1 [y3.1, y10.1] (h.ownS 139 rfl) _ eq17x12_2) ?_)))
   rintro _ w ⟨kq17x12_6, uq17x12_3, rfl, gq17x12_4, gq17x12_5⟩
   refine ⟨_, rfl, ?_⟩
   replace h := h.gotOwn 151 kq17x12_6 gq17x12_4 gq17x12_5
   have uq17x12_3q : ∀ b, ob uq17x12_3 b → ws18.heap.size ≤ b := fun b hb => Nat.le_trans hg19.size (gq17x12_5 b hb)
   replace hg19 := hg19.grow kq17x12_6
   refine wl_nil (whk_back hg19 (whk_eff 13 (by kernel_rfl) rfl want_none (w_stNG (vs := [uq17x7_3, (.slice none 0 0)]) h 4 [uq17x7_3, (.slice none 0 0)] rfl Many37 rfl rfl rfl rfl rfl (ones_cons (h.ownAt 91 rfl).one (ones_cons rfl ones_nil)) fun w h kq17x13_1 => ?_)))
   replace hg19 := hg19.same kq17x13_1
   refine wl_nil (whk_back hg19 (whk_ok 14 hg19 rfl want_none (by kernel_rfl) (by kernel_rfl) (by kernel_rfl) (fun w hk => r_assign (v := uq17x12_3) rfl) (whk_done (by kernel_rfl) (then_normal (wc_ret (fin_ct (vs := [uq17x7_3, (.slice none 0 0)]) (v2 := uq17x12_3) Tryd.results31 rfl rfl h 4 rfl Many37 rfl ?_))))))
   replace h := h.freeze 91 rfl
   obtain rfl := Option.some.inj hs
   exact ⟨h.grown, _, _, _, rfl, h.outRdO 91 151 rfl rfl, Rd2.nil, (h.outOwn 151 rfl).1, (h.outOwn 151 rfl).2⟩
  ·
   replace h := h.freeze 5 rfl
   replace h := h.freeze 6 rfl
   refine w_bsG (R := (rSl rRec)) (vs := [u5, u12]) (xs := [y3.1, y10.1]) h 139 ElemOf78 rfl rfl rfl ⟨(h.rdAt 5 rfl).rdc, ⟨(h.rdAt 6 rfl).rdc, trivial⟩⟩ rfl fun w uq17x11_1 h uq17x11_1k uq17x11_1f => ?_
   have uq17x11_1q : ∀ b, ob uq17x11_1 b → ws18.heap.size ≤ b := fun b hb => Nat.le_trans hg19.size (uq17x11_1f b hb)
   replace hg19 := hg19.grow uq17x11_1k
   refine wl_nil (whk_back hg19 (whk_eff 7 (by kernel_rfl) rfl want_none (w_call fnOk47 rfl rfl (slices_Concat_byte_c _ _ h.lt uq17x6_1 [a.safe, xq17x5_1] (h.ownS 79 rfl) _ eq17x7_2) ?_)))
   rintro _ w ⟨kq17x7_6, uq17x7_3, rfl, gq17x7_4, gq17x7_5⟩
   refine ⟨_, rfl, ?_⟩
   replace h := h.gotOwn 91 kq17x7_6 gq17x7_4 gq17x7_5
   have uq17x7_3q : ∀ b, ob uq17x7_3 b → ws18.heap.size ≤ b := fun b hb => Nat.le_trans hg19.size (gq17x7_5 b hb)
   replace hg19 := hg19.grow kq17x7_6
   refine wl_nil (whk_back hg19 (whk_ok 8 hg19 rfl want_none (by kernel_rfl) (by kernel_rfl) (by kernel_rfl) (fun w hk => r_build (pv := [(0, uq17x7_3)]) (out := [uq17x7_3, (.slice none 0 0)]) Struct37 rfl ⟨0, 1, [uq17x7_3], rfl, (toList_of_one (h.ownAt 91 rfl).one), rfl, Nat.le_of_ble_eq_true rfl, rfl⟩) (whk_eff 12 (by kernel_rfl) rfl want_none (w_call fnOk24 rfl rfl (slices_Concat_Rec_c _ _ h.lt uq17x11_1 [y3.1, y10.1] (h.ownS 139 rfl) _ eq17x12_2) ?_))))
   rintro _ w ⟨kq17x12_6, uq17x12_3, rfl, gq17x12_4, gq17x12_5⟩
   refine ⟨_, rfl, ?_⟩
   replace h := h.gotOwn 151 kq17x12_6 gq17x12_4 gq17x12_5
   have uq17x12_3q : ∀ b, ob uq17x12_3 b → ws18.heap.size ≤ b := fun b hb => Nat.le_trans hg19.size (gq17x12_5 b hb)
   replace hg19 := hg19.grow kq17x12_6
   refine wl_nil (whk_back hg19 (whk_eff 13 (by kernel_rfl) rfl want_none (w_stNG (vs := [uq17x7_3, (.slice none 0 0)]) h 4 [uq17x7_3, (.slice none 0 0)] rfl Many37 rfl rfl rfl rfl rfl (ones_cons (h.ownAt 91 rfl).one (ones_cons rfl ones_nil)) fun w h kq17x13_1 => ?_)))
   replace hg19 := hg19.same kq17x13_1
   refine wl_nil (whk_back hg19 (whk_ok 14 hg19 rfl want_none (by kernel_rfl) (by kernel_rfl) (by kernel_rfl) (fun w hk => r_assign (v := uq17x12_3) rfl) (whk_done (by kernel_rfl) (then_normal (wc_ret (fin_ct (vs := [uq17x7_3, (.slice none 0 0)]) (v2 := uq17x12_3) Tryd.results31 rfl rfl h 4 rfl Many37 rfl ?_))))))
   replace h := h.freeze 91 rfl
   obtain rfl := Option.some.inj hs
   exact ⟨h.grown, _, _, _, rfl, h.outRdO 91 151 rfl rfl, Rd2.nil, (h.outOwn 151 rfl).1, (h.outOwn 151 rfl).2⟩
 ·
  replace h := h.freeze 5 rfl
  replace h := h.freeze 6 rfl
  refine w_bsG (R := (rSl rRec)) (vs := [u5, u12]) (xs := [y3.1, y10.1]) h 139 ElemOf78 rfl rfl rfl ⟨(h.rdAt 5 rfl).rdc, ⟨(h.rdAt 6 rfl).rdc, trivial⟩⟩ rfl fun w uq17x11_1 h uq17x11_1k uq17x11_1f => ?_
  have uq17x11_1q : ∀ b, ob uq17x11_1 b → ws18.heap.size ≤ b := fun b hb => Nat.le_trans hg19.size (uq17x11_1f b hb)
  replace hg19 := hg19.grow uq17x11_1k
  refine wl_nil (whk_back hg19 (whk_eff 6 (by kernel_rfl) rfl want_none (w_bsG (R := (rSl rByte)) (vs := [va0, uq17x5_3]) (xs := [a.safe, xq17x5_1]) h 79 ElemOf107 rfl rfl rfl ⟨(h.rdAt 1 rfl).rdc, ⟨(h.rdAt 67 rfl).rdc, trivial⟩⟩ rfl fun w uq17x6_1 h uq17x6_1k uq17x6_1f => ?_)))
  have uq17x6_1q : ∀ b, ob uq17x6_1 b → ws18.heap.size ≤ b := fun b hb => Nat.le_trans hg19.size (uq17x6_1f b hb)
  replace hg19 := hg19.grow uq17x6_1k
  refine wl_nil (whk_back hg19 (whk_eff 7 (by kernel_rfl) rfl want_none (w_call fnOk47 rfl rfl (slices_Concat_byte_c _ _ h.lt uq17x6_1 [a.safe, xq17x5_1] (h.ownS 79 rfl) _ eq17x7_2) ?_)))
  rintro _ w ⟨kq17x7_6, uq17x7_3, rfl, gq17x7_4, gq17x7_5⟩
  refine ⟨_, rfl, ?_⟩
  replace h := h.gotOwn 91 kq17x7_6 gq17x7_4 gq17x7_5
  have uq17x7_3q : ∀ b, ob uq17x7_3 b → ws18.heap.size ≤ b := fun b hb => Nat.le_trans hg19.size (gq17x7_5 b hb)
  replace hg19 := hg19.grow kq17x7_6
  refine wl_nil (whk_back hg19 (whk_ok 8 hg19 rfl want_none (by kernel_rfl) (by kernel_rfl) (by kernel_rfl) (fun w hk => r_build (pv := [(0, uq17x7_3)]) (out := [uq17x7_3, (.slice none 0 0)]) Struct37 rfl ⟨0, 1, [uq17x7_3], rfl, (toList_of_one (h.ownAt 91 rfl).one), rfl, Nat.le_of_ble_eq_true rfl, rfl⟩) (whk_eff 12 (by kernel_rfl) rfl want_none (w_call fnOk24 rfl rfl (slices_Concat_Rec_c _ _ h.lt uq17x11_1 [y3.1, y10.1] (h.ownS 139 rfl) _ eq17x12_2) ?_))))
  rintro _ w ⟨kq17x12_6, uq17x12_3, rfl, gq17x12_4, gq17x12_5⟩
  refine ⟨_, rfl, ?_⟩
  replace h := h.gotOwn 151 kq17x12_6 gq17x12_4 gq17x12_5
  have uq17x12_3q : ∀ b, ob uq17x12_3 b → ws18.heap.size ≤ b := fun b hb => Nat.le_trans hg19.size (gq17x12_5 b hb)
  replace hg19 := hg19.grow kq17x12_6
  refine wl_nil (whk_back hg19 (whk_eff 13 (by kernel_rfl) rfl want_none (w_stNG (vs := [uq17x7_3, (.slice none 0 0)]) h 4 [uq17x7_3, (.slice none 0 0)] rfl Many37 rfl rfl rfl rfl rfl (ones_cons (h.ownAt 91 rfl).one (ones_cons rfl ones_nil)) fun w h kq17x13_1 => ?_)))
  replace hg19 := hg19.same kq17x13_1
  refine wl_nil (whk_back hg19 (whk_ok 14 hg19 rfl want_none (by kernel_rfl) (by kernel_rfl) (by kernel_rfl) (fun w hk => r_assign (v := uq17x12_3) rfl) (whk_done (by kernel_rfl) (then_normal (wc_ret (fin_ct (vs := [uq17x7_3, (.slice none 0 0)]) (v2 := uq17x12_3) Tryd.results31 rfl rfl h 4 rfl Many37 rfl ?_))))))
  replace h := h.freeze 91 rfl
  obtain rfl := Option.some.inj hs
  exact ⟨h.grown, _, _, _, rfl, h.outRdO 91 151 rfl rfl, Rd2.nil, (h.outOwn 151 rfl).1, (h.outOwn 151 rfl).2⟩
def wandererlaw_DiskSays_j16 (c : Int) (a : Disk) (y20 : Disk × Int) (x89 : Bool) : Option Bool :=
  bif x89 then some false else bif (decide ((c : Int) < 0) || decide (((a.wait.length : Int) : Int) < c)) then bif decide ((y20.2 : Int) = 3) then (wandererref_SameDisk y20.1 (⟨[], []⟩ : Disk)).bind fun y93 => some y93 else some false else bif decide ((y20.2 : Int) = 0) then (sub? a.wait 0 c).bind fun xq96x9_1 => (wandererref_SameDisk y20.1 (⟨a.safe, xq96x9_1⟩ : Disk)).bind fun yq96x11_1 => some yq96x11_1 else some false
def wandererlaw_DiskSays_b19 (y28 : Disk × List Rec × Int) (y78 : Disk × List Rec) (c : Int) (a : Disk) (y20 : Disk × Int) (i115 : Int) (s : Unit) (nx118 : Unit → Option Bool) : Option Bool :=
  (idx y28.2.1 i115).bind fun x121 => (idx y78.2 i115).bind fun x134 => (wandererref_SameRec x121 x134).bind fun y147 => bif (!y147) then wandererlaw_DiskSays_j16 c a y20 true else nx118 ()
def wandererlaw_DiskSays_k20 (c : Int) (a : Disk) (y20 : Disk × Int) (s : Unit) : Option Bool :=
  wandererlaw_DiskSays_j16 c a y20 false
def wandererlaw_DiskSays_j2 (y39 : Int) (y4 : Disk × Int) (y12 : Disk × Int) (y20 : Disk × Int) (y28 : Disk × List Rec × Int) (a : Disk) (b : Rec) (c : Int) (x43 : Bool) : Option Bool :=
  bif x43 then some false else bif decide ((y39 : Int) ≠ 0) then bif ((((decide ((y4.2 : Int) = y39) && decide ((y12.2 : Int) = y39)) && decide ((y20.2 : Int) = y39)) && decide ((y28.2.2 : Int) = y39)) && decide (((y28.2.1.length : Int) : Int) = 0)) then (wandererref_SameDisk y4.1 (⟨[], []⟩ : Disk)).bind fun y47 => bif y47 then (wandererref_SameDisk y12.1 (⟨[], []⟩ : Disk)).bind fun y51 => bif y51 then (wandererref_SameDisk y20.1 (⟨[], []⟩ : Disk)).bind fun y55 => bif y55 then (wandererref_SameDisk y28.1 (⟨[], []⟩ : Disk)).bind fun y59 => some y59 else some false else some false else some false else some false else (wandererref_PutOn a b).bind fun y62 => (wandererref_Synced a).bind fun y70 => (wandererref_Recovered a).bind fun y78 => bif decide ((y4.2 : Int) ≠ y62.2) then wandererlaw_DiskSays_j16 c a y20 true else (wandererref_SameDisk y4.1 y62.1).bind fun y101 => bif ((!y101) || decide ((y12.2 : Int) ≠ y70.2)) then wandererlaw_DiskSays_j16 c a y20 true else (wandererref_SameDisk y12.1 y70.1).bind fun y105 => bif ((!y105) || decide ((y28.2.2 : Int) ≠ 0)) then wandererlaw_DiskSays_j16 c a y20 true else (wandererref_SameDisk y28.1 y78.1).bind fun y109 => bif (!y109) then wandererlaw_DiskSays_j16 c a y20 true else bif decide (((y28.2.1.length : Int) : Int) ≠ (y78.2.length : Int)) then wandererlaw_DiskSays_j16 c a y20 true else upto (wandererlaw_DiskSays_b19 y28 y78 c a y20) (wandererlaw_DiskSays_k20 c a y20) 0 ((y28.2.1.length : Int)).toNat ()
def wandererlaw_DiskSays (N : Nat) (a : Disk) (b : Rec) (c : Int) (d : Disk) : Option Bool :=
  (disk_Put N a b).bind fun y4 => (disk_Sync N a).bind fun y12 => (disk_Crash N a c).bind fun y20 => (disk_Recover N a).bind fun y28 => (wandererref_CheckDisk a).bind fun y39 => (wandererlaw_filed N).bind fun yq151x0_1 => bif (!yq151x0_1) then wandererlaw_DiskSays_j2 y39 y4 y12 y20 y28 a b c true else (disk_Check N a).bind fun yq151x4_1 => bif decide ((yq151x4_1 : Int) ≠ y39) then wandererlaw_DiskSays_j2 y39 y4 y12 y20 y28 a b c true else (disk_Same a d).bind fun yq151x11_1 => (wandererref_SameDisk a d).bind fun yq151x14_1 => wandererlaw_DiskSays_j2 y39 y4 y12 y20 y28 a b c (yq151x11_1 != yq151x14_1)
theorem wandererlaw_DiskSays_c (N : Nat) (w0 : World) (M : BS) (hM : ∀ b, M b → b < w0.heap.size) (hT : Tabs Tryd.prog 3 w0) (a : Disk) (va0 va1 : Value) (ha0 : RdSl rByte w0 M va0 a.safe) (ha1 : RdSl rByte w0 M va1 a.wait) (b : Rec) (vb4 vb5 : Value) (hb4 : RdSl rInt w0 M vb4 b.says) (hb5 : RdSl rInt w0 M vb5 b.image) (c : Int) (d : Disk) (vd0 vd1 : Value) (hd0 : Rd2 rByte w0 BE M vd0 d.safe) (hd1 : Rd2 rByte w0 BE M vd1 d.wait) (r : Bool) (hs : wandererlaw_DiskSays N a b c d = some r) :
    Calls Tryd.prog 6 #[(.agg #[va0, va1]), (.agg #[(.int .i64 (b.kind)), (.int .i64 (b.co)), (.int .i64 (b.epoch)), (.int .i64 (b.place)), vb4, vb5]), (.int .i64 (c)), (.agg #[vd0, vd1])] w0 (fun e w' => Grow w0 w' ∧ e = .returned (.bool r)) := by
 refine calls_start (args := [(.agg #[va0, va1]), (.agg #[(.int .i64 (b.kind)), (.int .i64 (b.co)), (.int .i64 (b.epoch)), (.int .i64 (b.place)), vb4, vb5]), (.int .i64 (c)), (.agg #[vd0, vd1])]) Tryd.func6 rfl Tryd.ntmps6 (Nat.le_of_ble_eq_true rfl) ?_
 have h := SH.init hM
 replace h := h.argRd 1 ha0 none_own
 replace h := h.argRd 2 ha1 (hupd_own_rd none_own)
 replace h := h.argRd 3 hb4 (hupd_own_rd (hupd_own_rd none_own))
 replace h := h.argRd 4 hb5 (hupd_own_rd (hupd_own_rd (hupd_own_rd none_own)))
 replace h := h.argSr 5 hd0 (hupd_own_rd (hupd_own_rd (hupd_own_rd (hupd_own_rd none_own))))
 replace h := h.argSr 6 hd1 (hupd_own_sr (hupd_own_rd (hupd_own_rd (hupd_own_rd (hupd_own_rd none_own)))))
 refine wc_seq (wc_region (w_box (cs := [va0, va1]) h 7 rfl rfl fun w b1 h => w_box (cs := [(.int .i64 (b.kind)), (.int .i64 (b.co)), (.int .i64 (b.epoch)), (.int .i64 (b.place)), vb4, vb5]) h 8 rfl rfl fun w b2 h => w_box (cs := [vd0, vd1]) h 9 rfl rfl fun w b3 h => wl_ok (r_assign (v := (.bool (false))) rfl) (wl_nil (then_normal (wc_seq (wc_region (wl_ok (r_ldBN (vs := [va0, va1]) h 7 rfl Many37 rfl rfl rfl) (wl_ok (r_ldBN (vs := [(.int .i64 (b.kind)), (.int .i64 (b.co)), (.int .i64 (b.epoch)), (.int .i64 (b.place)), vb4, vb5]) h 8 rfl Many24 rfl rfl rfl) ?_))))))))
 obtain ⟨y4, e5, hs⟩ := o_bind hs
 refine w_call fnOk18 rfl rfl (disk_Put_c N _ _ h.lt (hT.go h.keep) a va0 va1 (h.rdS 1 rfl) (h.rdS 2 rfl) b vb4 vb5 (h.rdAt 3 rfl) (h.rdAt 4 rfl) _ e5) ?_
 rintro _ w ⟨k10, u6, u8, rfl, g7, g9⟩
 refine ⟨_, rfl, ?_⟩
 replace h := h.gotRd 10 k10 g7
 replace h := h.knowRd 11 g9.up
 refine wl_ok (r_move (v := (.tuple #[(.agg #[u6, u8]), (.int .i64 (y4.2))])) rfl) (wl_ok (r_extract rfl rfl) (wl_ok (r_extract rfl rfl) (w_allocN h 12 Many37 fun w b11 h => w_stN (vs := [u6, u8]) h 12 [u6, u8] rfl Many37 rfl rfl rfl rfl rfl (ones_cons (h.rdAt 10 rfl).one (ones_cons (h.rdAt 11 rfl).one ones_nil)) fun w h => wl_ok (r_assign (v := (.int .i64 (y4.2))) rfl) (wl_nil (then_normal (wc_seq (wc_region (wl_ok (r_ldBN (vs := [va0, va1]) h 7 rfl Many37 rfl rfl rfl) ?_))))))))
 obtain ⟨y12, e13, hs⟩ := o_bind hs
 refine w_call fnOk19 rfl rfl (disk_Sync_c N _ _ h.lt (hT.go h.keep) a va0 va1 (h.rdAt 1 rfl) (h.rdAt 2 rfl) _ e13) ?_
 rintro _ w ⟨k18, u14, u16, rfl, g15, g17⟩
 refine ⟨_, rfl, ?_⟩
 replace h := h.gotRd 13 k18 g15
 replace h := h.knowRd 14 g17.up
 refine wl_ok (r_move (v := (.tuple #[(.agg #[u14, u16]), (.int .i64 (y12.2))])) rfl) (wl_ok (r_extract rfl rfl) (wl_ok (r_extract rfl rfl) (w_allocN h 15 Many37 fun w b19 h => w_stN (vs := [u14, u16]) h 15 [u14, u16] rfl Many37 rfl rfl rfl rfl rfl (ones_cons (h.rdAt 13 rfl).one (ones_cons (h.rdAt 14 rfl).one ones_nil)) fun w h => wl_ok (r_assign (v := (.int .i64 (y12.2))) rfl) (wl_nil (then_normal (wc_seq (wc_region (wl_ok (r_ldBN (vs := [va0, va1]) h 7 rfl Many37 rfl rfl rfl) (wl_ok (r_move (v := (.int .i64 (c))) rfl) ?_)))))))))
 obtain ⟨y20, e21, hs⟩ := o_bind hs
 refine w_call fnOk20 rfl rfl (disk_Crash_c N _ _ h.lt (hT.go h.keep) a va0 va1 (h.rdS 1 rfl) (h.rdS 2 rfl) c _ e21) ?_
 rintro _ w ⟨k26, u22, u24, rfl, g23, g25⟩
 refine ⟨_, rfl, ?_⟩
 replace h := h.gotRd 16 k26 g23
 replace h := h.knowRd 17 g25.up
 refine wl_ok (r_move (v := (.tuple #[(.agg #[u22, u24]), (.int .i64 (y20.2))])) rfl) (wl_ok (r_extract rfl rfl) (wl_ok (r_extract rfl rfl) (w_allocN h 18 Many37 fun w b27 h => w_stN (vs := [u22, u24]) h 18 [u22, u24] rfl Many37 rfl rfl rfl rfl rfl (ones_cons (h.rdAt 16 rfl).one (ones_cons (h.rdAt 17 rfl).one ones_nil)) fun w h => wl_ok (r_assign (v := (.int .i64 (y20.2))) rfl) (wl_nil (then_normal (wc_seq (wc_region (wl_ok (r_ldBN (vs := [va0, va1]) h 7 rfl Many37 rfl rfl rfl) ?_))))))))
 obtain ⟨y28, e29, hs⟩ := o_bind hs
 refine w_call fnOk22 rfl rfl (disk_Recover_c N _ _ h.lt (hT.go h.keep) a va0 va1 (h.rdAt 1 rfl) (h.rdAt 2 rfl) _ e29) ?_
 rintro _ w ⟨k37, u30, u32, u34, rfl, g31, g33, g35, g36⟩
 refine ⟨_, rfl, ?_⟩
 replace h := h.gotOwn 21 k37 g35 g36
 replace h := h.knowRd 19 g31.upO
 replace h := h.knowRd 20 g33.upO.up
 refine wl_ok (r_move (v := (.tuple #[(.agg #[u30, u32]), u34, (.int .i64 (y28.2.2))])) rfl) (wl_ok (r_extract rfl rfl) (wl_ok (r_extract rfl rfl) (wl_ok (r_extract rfl rfl) (w_allocN h 22 Many37 fun w b38 h => w_stN (vs := [u30, u32]) h 22 [u30, u32] rfl Many37 rfl rfl rfl rfl rfl (ones_cons (h.rdAt 19 rfl).one (ones_cons (h.rdAt 20 rfl).one ones_nil)) fun w h => wl_ok (r_assign (v := u34) rfl) (wl_ok (r_assign (v := (.int .i64 (y28.2.2))) rfl) (wl_nil (then_normal (wc_seq (wc_region (wl_ok (r_ldBN (vs := [va0, va1]) h 7 rfl Many37 rfl rfl rfl) ?_))))))))))
 obtain ⟨y39, e40, hs⟩ := o_bind hs
 refine w_call fnOk26 rfl rfl (wandererref_CheckDisk_c _ _ h.lt (hT.go h.keep) a va0 va1 (h.rdS 1 rfl) (h.rdS 2 rfl) _ e40) ?_
 rintro _ w ⟨k41, rfl⟩
 refine ⟨_, rfl, ?_⟩
 replace h := h.grow k41
 refine wl_ok (r_assign (v := (.int .i64 (y39))) rfl) (wl_nil (then_normal (wc_seq (wc_region (wl_ok (r_build (pv := []) (out := [(.slice none 0 0), (.slice none 0 0)]) Struct37 rfl rfl) (w_allocN h 23 Many37 fun w b42 h => w_stN (vs := [(.slice none 0 0), (.slice none 0 0)]) h 23 [(.slice none 0 0), (.slice none 0 0)] rfl Many37 rfl rfl rfl rfl rfl (ones_cons rfl (ones_cons rfl ones_nil)) fun w h => wl_nil (then_normal (wc_seq (wc_join (σ := Bool) (inl [52, 53, 54, 55, 56, 57, 58, 59, 60, 61, 62, 63, 64, 65, 66, 67, 68]) (fun x43 => [(68, (.bool (x43)))]) (fun x43 w => SH w0 M BE w (hset [(1, .rd rByte va0 a.safe), (2, .rd rByte va1 a.wait), (3, .rd rInt vb4 b.says), (4, .rd rInt vb5 b.image), (7, .blk b1 [va0, va1]), (8, .blk b2 [(.int .i64 (b.kind)), (.int .i64 (b.co)), (.int .i64 (b.epoch)), (.int .i64 (b.place)), vb4, vb5]), (10, .rd rByte u6 y4.1.safe), (11, .rd rByte u8 y4.1.wait), (12, .blk b11 [u6, u8]), (13, .rd rByte u14 y12.1.safe), (14, .rd rByte u16 y12.1.wait), (15, .blk b19 [u14, u16]), (16, .rd rByte u22 y20.1.safe), (17, .rd rByte u24 y20.1.wait), (18, .blk b27 [u22, u24]), (19, .rd rByte u30 y28.1.safe), (20, .rd rByte u32 y28.1.wait), (21, .own rRec 24 u34 y28.2.1), (22, .blk b38 [u30, u32]), (23, .blk b42 [(.slice none 0 0), (.slice none 0 0)])]) ∧ wandererlaw_DiskSays_j2 y39 y4 y12 y20 y28 a b c x43 = some r) ?_ ?_)))))))))
 ·
  rintro x43 w junk ⟨h, hs⟩
  refine wc_ifb hs rfl (fun c44 hs => ?_) (fun c44 hs => ?_)
  ·
   refine wc_seq (wc_region (wl_ok (r_assign (v := (.bool (false))) rfl) (wl_nil (then_normal (wc_ret (then_ret (fin1 (v := (.bool (false))) Tryd.results6 rfl ?_)))))))
   obtain rfl := Option.some.inj hs
   exact ⟨h.grown, rfl⟩
  ·
   refine wc_skip (then_normal (wc_seq (wc_seq (wc_region (wl_ok (r_move (v := (.int .i64 (y39))) rfl) (wl_ok (r_neq rfl rfl) (wl_nil (then_normal (wc_ifb hs rfl (fun c45 hs => ?_) (fun c45 hs => ?_))))))))))
   ·
    refine wc_seq (wc_region (wl_ok (r_move (v := (.int .i64 (y4.2))) rfl) (wl_ok (r_move (v := (.int .i64 (y39))) rfl) (wl_ok (r_eql rfl rfl) (wl_ok (r_move (v := (.bool (decide ((y4.2 : Int) = y39)))) rfl) (wl_gd0 rfl rfl (fun q => r_move (v := (.int .i64 (y12.2))) rfl) (wl_gd0 rfl rfl (fun q => r_move (v := (.int .i64 (y39))) rfl) (wl_gd0 rfl rfl (fun q => r_eql (gvt q) (gvt q)) (wl_ok (r_pand rfl rfl evc) (wl_ok (r_move (v := (.bool ((decide ((y4.2 : Int) = y39) && decide ((y12.2 : Int) = y39))))) rfl) (wl_gd0 rfl rfl (fun q => r_move (v := (.int .i64 (y20.2))) rfl) (wl_gd0 rfl rfl (fun q => r_move (v := (.int .i64 (y39))) rfl) (wl_gd0 rfl rfl (fun q => r_eql (gvt q) (gvt q)) (wl_ok (r_pand rfl rfl evc) (wl_ok (r_move (v := (.bool (((decide ((y4.2 : Int) = y39) && decide ((y12.2 : Int) = y39)) && decide ((y20.2 : Int) = y39))))) rfl) (wl_gd0 rfl rfl (fun q => r_move (v := (.int .i64 (y28.2.2))) rfl) (wl_gd0 rfl rfl (fun q => r_move (v := (.int .i64 (y39))) rfl) (wl_gd0 rfl rfl (fun q => r_eql (gvt q) (gvt q)) (wl_ok (r_pand rfl rfl evc) (wl_ok (r_move (v := (.bool ((((decide ((y4.2 : Int) = y39) && decide ((y12.2 : Int) = y39)) && decide ((y20.2 : Int) = y39)) && decide ((y28.2.2 : Int) = y39))))) rfl) (wl_gd0 rfl rfl (fun q => r_move (v := u34) rfl) (wl_gd0 rfl rfl (fun q => r_len SliceOf34 (gvt q) (h.ownS 21 rfl)) (wl_gd0 rfl rfl (fun q => r_eql (gvt q) rfl) ?_)))))))))))))))))))))))
    refine wl_ok (r_pand rfl rfl evc) (wl_ok (r_move (v := (.bool (((((decide ((y4.2 : Int) = y39) && decide ((y12.2 : Int) = y39)) && decide ((y20.2 : Int) = y39)) && decide ((y28.2.2 : Int) = y39)) && decide (((y28.2.1.length : Int) : Int) = 0))))) rfl) (c_split (b := ((((decide ((y4.2 : Int) = y39) && decide ((y12.2 : Int) = y39)) && decide ((y20.2 : Int) = y39)) && decide ((y28.2.2 : Int) = y39)) && decide (((y28.2.1.length : Int) : Int) = 0))) hs (fun c46 hs => ?_) (fun c46 hs => ?_)))
    ·
     refine wl_on rfl (congrArg Value.bool c46) (wl_ok (r_ldBN (vs := [u6, u8]) h 12 rfl Many37 rfl rfl rfl) (wl_on rfl (congrArg Value.bool c46) (wl_ok (r_ldBN (vs := [(.slice none 0 0), (.slice none 0 0)]) h 23 rfl Many37 rfl rfl rfl) (wl_on rfl (congrArg Value.bool c46) ?_))))
     obtain ⟨y47, e48, hs⟩ := o_bind hs
     refine w_call fnOk28 rfl rfl (wandererref_SameDisk_c _ _ h.lt y4.1 u6 u8 (h.rdS 10 rfl) (h.rdS 11 rfl) (⟨[], []⟩ : Disk) (.slice none 0 0) (.slice none 0 0) Rd2.nil Rd2.nil _ e48) ?_
     rintro _ w ⟨k49, rfl⟩
     refine ⟨_, rfl, ?_⟩
     replace h := h.grow k49
     refine wl_ok (r_pick (b := true) (v := (.bool (y47))) (congrArg Value.bool c46) rfl) (wl_ok (r_move (v := (.bool (y47))) rfl) (c_split (b := y47) hs (fun c50 hs => ?_) (fun c50 hs => ?_)))
     ·
      refine wl_on rfl (congrArg Value.bool c50) (wl_ok (r_ldBN (vs := [u14, u16]) h 15 rfl Many37 rfl rfl rfl) (wl_on rfl (congrArg Value.bool c50) (wl_ok (r_ldBN (vs := [(.slice none 0 0), (.slice none 0 0)]) h 23 rfl Many37 rfl rfl rfl) (wl_on rfl (congrArg Value.bool c50) ?_))))
      obtain ⟨y51, e52, hs⟩ := o_bind hs
      refine w_call fnOk28 rfl rfl (wandererref_SameDisk_c _ _ h.lt y12.1 u14 u16 (h.rdS 13 rfl) (h.rdS 14 rfl) (⟨[], []⟩ : Disk) (.slice none 0 0) (.slice none 0 0) Rd2.nil Rd2.nil _ e52) ?_
      rintro _ w ⟨k53, rfl⟩
      refine ⟨_, rfl, ?_⟩
      replace h := h.grow k53
      refine wl_ok (r_pick (b := true) (v := (.bool (y51))) (congrArg Value.bool c50) rfl) (wl_ok (r_move (v := (.bool (y51))) rfl) (c_split (b := y51) hs (fun c54 hs => ?_) (fun c54 hs => ?_)))
      ·
       refine wl_on rfl (congrArg Value.bool c54) (wl_ok (r_ldBN (vs := [u22, u24]) h 18 rfl Many37 rfl rfl rfl) (wl_on rfl (congrArg Value.bool c54) (wl_ok (r_ldBN (vs := [(.slice none 0 0), (.slice none 0 0)]) h 23 rfl Many37 rfl rfl rfl) (wl_on rfl (congrArg Value.bool c54) ?_))))
       obtain ⟨y55, e56, hs⟩ := o_bind hs
       refine w_call fnOk28 rfl rfl (wandererref_SameDisk_c _ _ h.lt y20.1 u22 u24 (h.rdS 16 rfl) (h.rdS 17 rfl) (⟨[], []⟩ : Disk) (.slice none 0 0) (.slice none 0 0) Rd2.nil Rd2.nil _ e56) ?_
       rintro _ w ⟨k57, rfl⟩
       refine ⟨_, rfl, ?_⟩
       replace h := h.grow k57
       refine wl_ok (r_pick (b := true) (v := (.bool (y55))) (congrArg Value.bool c54) rfl) (wl_ok (r_move (v := (.bool (y55))) rfl) (c_split (b := y55) hs (fun c58 hs => ?_) (fun c58 hs => ?_)))
       ·
        refine wl_on rfl (congrArg Value.bool c58) (wl_ok (r_ldBN (vs := [u30, u32]) h 22 rfl Many37 rfl rfl rfl) (wl_on rfl (congrArg Value.bool c58) (wl_ok (r_ldBN (vs := [(.slice none 0 0), (.slice none 0 0)]) h 23 rfl Many37 rfl rfl rfl) (wl_on rfl (congrArg Value.bool c58) ?_))))
        obtain ⟨y59, e60, hs⟩ := o_bind hs
        refine w_call fnOk28 rfl rfl (wandererref_SameDisk_c _ _ h.lt y28.1 u30 u32 (h.rdS 19 rfl) (h.rdS 20 rfl) (⟨[], []⟩ : Disk) (.slice none 0 0) (.slice none 0 0) Rd2.nil Rd2.nil _ e60) ?_
        rintro _ w ⟨k61, rfl⟩
        refine ⟨_, rfl, ?_⟩
        replace h := h.grow k61
        refine wl_ok (r_pick (b := true) (v := (.bool (y59))) (congrArg Value.bool c58) rfl) (wl_ok (r_assign (v := (.bool (y59))) rfl) (wl_nil (then_normal (wc_ret (then_ret (fin1 (v := (.bool (y59))) Tryd.results6 rfl ?_))))))
        obtain rfl := Option.some.inj hs
        exact ⟨h.grown, rfl⟩
       ·
        refine wl_off (b' := false) rfl (congrArg Value.bool c58) rfl (wl_off (b' := false) rfl (congrArg Value.bool c58) rfl (wl_off (b' := false) rfl (congrArg Value.bool c58) rfl (wl_ok (r_pick (b := false) (v := (.bool (false))) (congrArg Value.bool c58) rfl) (wl_ok (r_assign (v := (.bool (false))) rfl) (wl_nil (then_normal (wc_ret (then_ret (fin1 (v := (.bool (false))) Tryd.results6 rfl ?_)))))))))
        obtain rfl := Option.some.inj hs
        exact ⟨h.grown, rfl⟩
      ·
       refine wl_off (b' := false) rfl (congrArg Value.bool c54) rfl (wl_off (b' := false) rfl (congrArg Value.bool c54) rfl (wl_off (b' := false) rfl (congrArg Value.bool c54) rfl (wl_ok (r_pick (b := false) (v := (.bool (false))) (congrArg Value.bool c54) rfl) (wl_ok (r_move (v := (.bool (false))) rfl) (wl_off (b' := false) rfl rfl rfl (wl_off (b' := false) rfl rfl rfl (wl_off (b' := false) rfl rfl rfl (wl_ok (r_pick (b := false) (v := (.bool (false))) rfl rfl) (wl_ok (r_assign (v := (.bool (false))) rfl) (wl_nil (then_normal (wc_ret (then_ret (fin1 (v := (.bool (false))) Tryd.results6 rfl ?_))))))))))))))
       obtain rfl := Option.some.inj hs
       exact ⟨h.grown, rfl⟩
     ·
      refine wl_off (b' := false) rfl (congrArg Value.bool c50) rfl (wl_off (b' := false) rfl (congrArg Value.bool c50) rfl (wl_off (b' := false) rfl (congrArg Value.bool c50) rfl (wl_ok (r_pick (b := false) (v := (.bool (false))) (congrArg Value.bool c50) rfl) (wl_ok (r_move (v := (.bool (false))) rfl) (wl_off (b' := false) rfl rfl rfl (wl_off (b' := false) rfl rfl rfl (wl_off (b' := false) rfl rfl rfl (wl_ok (r_pick (b := false) (v := (.bool (false))) rfl rfl) (wl_ok (r_move (v := (.bool (false))) rfl) (wl_off (b' := false) rfl rfl rfl (wl_off (b' := false) rfl rfl rfl (wl_off (b' := false) rfl rfl rfl (wl_ok (r_pick (b := false) (v := (.bool (false))) rfl rfl) (wl_ok (r_assign (v := (.bool (false))) rfl) (wl_nil (then_normal (wc_ret (then_ret (fin1 (v := (.bool (false))) Tryd.results6 rfl ?_)))))))))))))))))))
      obtain rfl := Option.some.inj hs
      exact ⟨h.grown, rfl⟩
    ·
     refine wl_off (b' := false) rfl (congrArg Value.bool c46) rfl (wl_off (b' := false) rfl (congrArg Value.bool c46) rfl (wl_off (b' := false) rfl (congrArg Value.bool c46) rfl (wl_ok (r_pick (b := false) (v := (.bool (false))) (congrArg Value.bool c46) rfl) (wl_ok (r_move (v := (.bool (false))) rfl) (wl_off (b' := false) rfl rfl rfl (wl_off (b' := false) rfl rfl rfl (wl_off (b' := false) rfl rfl rfl (wl_ok (r_pick (b := false) (v := (.bool (false))) rfl rfl) (wl_ok (r_move (v := (.bool (false))) rfl) (wl_off (b' := false) rfl rfl rfl (wl_off (b' := false) rfl rfl rfl (wl_off (b' := false) rfl rfl rfl (wl_ok (r_pick (b := false) (v := (.bool (false))) rfl rfl) (wl_ok (r_move (v := (.bool (false))) rfl) (wl_off (b' := false) rfl rfl rfl (wl_off (b' := false) rfl rfl rfl (wl_off (b' := false) rfl rfl rfl (wl_ok (r_pick (b := false) (v := (.bool (false))) rfl rfl) (wl_ok (r_assign (v := (.bool (false))) rfl) (wl_nil (then_normal (wc_ret (then_ret ?_)))))))))))))))))))))))
     refine fin1 (v := (.bool (false))) Tryd.results6 rfl ?_
     obtain rfl := Option.some.inj hs
     exact ⟨h.grown, rfl⟩
   ·
    refine wc_skip (then_normal (wc_seq (wc_region (wl_ok (r_ldBN (vs := [va0, va1]) h 7 rfl Many37 rfl rfl rfl) (wl_ok (r_ldBN (vs := [(.int .i64 (b.kind)), (.int .i64 (b.co)), (.int .i64 (b.epoch)), (.int .i64 (b.place)), vb4, vb5]) h 8 rfl Many24 rfl rfl rfl) ?_)))))
    obtain ⟨y62, e63, hs⟩ := o_bind hs
    refine w_call fnOk29 rfl rfl (wandererref_PutOn_c _ _ h.lt (hT.go h.keep) a va0 va1 (h.rdAt 1 rfl) (h.rdAt 2 rfl) b vb4 vb5 (h.rdAt 3 rfl) (h.rdAt 4 rfl) _ e63) ?_
    rintro _ w ⟨k68, u64, u66, rfl, g65, g67⟩
    refine ⟨_, rfl, ?_⟩
    replace h := h.gotRd 24 k68 g65
    replace h := h.knowRd 25 g67.up
    refine wl_ok (r_move (v := (.tuple #[(.agg #[u64, u66]), (.int .i64 (y62.2))])) rfl) (wl_ok (r_extract rfl rfl) (wl_ok (r_extract rfl rfl) (w_allocN h 26 Many37 fun w b69 h => w_stN (vs := [u64, u66]) h 26 [u64, u66] rfl Many37 rfl rfl rfl rfl rfl (ones_cons (h.rdAt 24 rfl).one (ones_cons (h.rdAt 25 rfl).one ones_nil)) fun w h => wl_ok (r_assign (v := (.int .i64 (y62.2))) rfl) (wl_nil (then_normal (wc_seq (wc_region (wl_ok (r_ldBN (vs := [va0, va1]) h 7 rfl Many37 rfl rfl rfl) ?_))))))))
    obtain ⟨y70, e71, hs⟩ := o_bind hs
    refine w_call fnOk30 rfl rfl (wandererref_Synced_c _ _ h.lt (hT.go h.keep) a va0 va1 (h.rdAt 1 rfl) (h.rdAt 2 rfl) _ e71) ?_
    rintro _ w ⟨k76, u72, u74, rfl, g73, g75⟩
    refine ⟨_, rfl, ?_⟩
    replace h := h.gotRd 27 k76 g73
    replace h := h.knowRd 28 g75.up
    refine wl_ok (r_move (v := (.tuple #[(.agg #[u72, u74]), (.int .i64 (y70.2))])) rfl) (wl_ok (r_extract rfl rfl) (wl_ok (r_extract rfl rfl) (w_allocN h 29 Many37 fun w b77 h => w_stN (vs := [u72, u74]) h 29 [u72, u74] rfl Many37 rfl rfl rfl rfl rfl (ones_cons (h.rdAt 27 rfl).one (ones_cons (h.rdAt 28 rfl).one ones_nil)) fun w h => wl_ok (r_assign (v := (.int .i64 (y70.2))) rfl) (wl_nil (then_normal (wc_seq (wc_region (wl_ok (r_ldBN (vs := [va0, va1]) h 7 rfl Many37 rfl rfl rfl) ?_))))))))
    obtain ⟨y78, e79, hs⟩ := o_bind hs
    refine w_call fnOk31 rfl rfl (wandererref_Recovered_c _ _ h.lt (hT.go h.keep) a va0 va1 (h.rdAt 1 rfl) (h.rdAt 2 rfl) _ e79) ?_
    rintro _ w ⟨k87, u80, u82, u84, rfl, g81, g83, g85, g86⟩
    refine ⟨_, rfl, ?_⟩
    replace h := h.gotOwn 32 k87 g85 g86
    replace h := h.knowRd 30 g81.upO
    replace h := h.knowRd 31 g83.upO.up
    refine wl_ok (r_move (v := (.tuple #[(.agg #[u80, u82]), u84])) rfl) (wl_ok (r_extract rfl rfl) (wl_ok (r_extract rfl rfl) (w_allocN h 33 Many37 fun w b88 h => w_stN (vs := [u80, u82]) h 33 [u80, u82] rfl Many37 rfl rfl rfl rfl rfl (ones_cons (h.rdAt 30 rfl).one (ones_cons (h.rdAt 31 rfl).one ones_nil)) fun w h => wl_ok (r_assign (v := u84) rfl) (wl_nil (then_normal (wc_seq (wc_join (σ := Bool) (inl [130, 131, 132, 133, 134, 135, 136, 137, 138, 139, 140, 141, 142, 143, 144, 145, 146, 147, 148, 149, 150, 151, 152, 153, 154, 155, 156, 157, 158, 159, 160, 161, 162, 163, 164, 165]) (fun x89 => [(165, (.bool (x89)))]) (fun x89 w => SH w0 M BE w (hset [(1, .rd rByte va0 a.safe), (2, .rd rByte va1 a.wait), (7, .blk b1 [va0, va1]), (16, .rd rByte u22 y20.1.safe), (17, .rd rByte u24 y20.1.wait), (18, .blk b27 [u22, u24]), (23, .blk b42 [(.slice none 0 0), (.slice none 0 0)])]) ∧ wandererlaw_DiskSays_j16 c a y20 x89 = some r) ?_ ?_)))))))
    ·
     rintro x89 w junk ⟨h, hs⟩
     refine wc_ifb hs rfl (fun c90 hs => ?_) (fun c90 hs => ?_)
     ·
      refine wc_seq (wc_region (wl_ok (r_assign (v := (.bool (false))) rfl) (wl_nil (then_normal (wc_ret (then_ret (fin1 (v := (.bool (false))) Tryd.results6 rfl ?_)))))))
      obtain rfl := Option.some.inj hs
      exact ⟨h.grown, rfl⟩
     ·
      refine wc_skip (then_normal (wc_seq (wc_seq (wc_region (wl_ok (r_move (v := (.int .i64 (c))) rfl) (wl_ok (r_lss rfl rfl) (wl_ok (r_move (v := (.bool (decide ((c : Int) < 0)))) rfl) (wl_gd0 rfl rfl (fun q => r_move (v := (.int .i64 (c))) rfl) (wl_gd0 rfl rfl (fun q => r_fieldAddr Fld37x1 rfl) (wl_gd0 rfl rfl (fun q => r_ldB h 7 rfl One35 (gvt q) rfl) (wl_gd0 rfl rfl (fun q => r_len SliceOf35 (gvt q) (h.rdS 2 rfl)) (wl_gd0 rfl rfl (fun q => r_gtr (gvt q) (gvt q)) (wl_ok (r_por rfl rfl evc) (wl_nil (then_normal (wc_ifb hs rfl (fun c91 hs => ?_) (fun c91 hs => ?_)))))))))))))))))
      ·
       refine wc_seq (wc_region (wl_ok (r_move (v := (.int .i64 (y20.2))) rfl) (wl_ok (r_eql rfl rfl) (wl_ok (r_move (v := (.bool (decide ((y20.2 : Int) = 3)))) rfl) (c_split (b := decide ((y20.2 : Int) = 3)) hs (fun c92 hs => ?_) (fun c92 hs => ?_))))))
       ·
        refine wl_on rfl (congrArg Value.bool c92) (wl_ok (r_ldBN (vs := [u22, u24]) h 18 rfl Many37 rfl rfl rfl) (wl_on rfl (congrArg Value.bool c92) (wl_ok (r_ldBN (vs := [(.slice none 0 0), (.slice none 0 0)]) h 23 rfl Many37 rfl rfl rfl) (wl_on rfl (congrArg Value.bool c92) ?_))))
        obtain ⟨y93, e94, hs⟩ := o_bind hs
        refine w_call fnOk28 rfl rfl (wandererref_SameDisk_c _ _ h.lt y20.1 u22 u24 (h.rdS 16 rfl) (h.rdS 17 rfl) (⟨[], []⟩ : Disk) (.slice none 0 0) (.slice none 0 0) Rd2.nil Rd2.nil _ e94) ?_
        rintro _ w ⟨k95, rfl⟩
        refine ⟨_, rfl, ?_⟩
        replace h := h.grow k95
        refine wl_ok (r_pick (b := true) (v := (.bool (y93))) (congrArg Value.bool c92) rfl) (wl_ok (r_assign (v := (.bool (y93))) rfl) (wl_nil (then_normal (wc_ret (then_ret (fin1 (v := (.bool (y93))) Tryd.results6 rfl ?_))))))
        obtain rfl := Option.some.inj hs
        exact ⟨h.grown, rfl⟩
       ·
        refine wl_off (b' := false) rfl (congrArg Value.bool c92) rfl (wl_off (b' := false) rfl (congrArg Value.bool c92) rfl (wl_off (b' := false) rfl (congrArg Value.bool c92) rfl (wl_ok (r_pick (b := false) (v := (.bool (false))) (congrArg Value.bool c92) rfl) (wl_ok (r_assign (v := (.bool (false))) rfl) (wl_nil (then_normal (wc_ret (then_ret (fin1 (v := (.bool (false))) Tryd.results6 rfl ?_)))))))))
        obtain rfl := Option.some.inj hs
        exact ⟨h.grown, rfl⟩
      ·
       refine wc_skip (then_normal (wc_seq (wc_held mixed h fun w h => wh_ok 0 (Keep.refl BE _) rfl want_none (by kernel_rfl) (by kernel_rfl) (by kernel_rfl) (fun w hk => r_move (v := (.int .i64 (y20.2))) rfl) (wh_ok 1 (Keep.refl BE _) rfl want_none (by kernel_rfl) (by kernel_rfl) (by kernel_rfl) (fun w hk => r_eql rfl rfl) (wh_ok 2 (Keep.refl BE _) rfl want_none (by kernel_rfl) (by kernel_rfl) (by kernel_rfl) (fun w hk => r_move (v := (.bool (decide ((y20.2 : Int) = 0)))) rfl) (c_split (b := decide ((y20.2 : Int) = 0)) hs (fun c97 hs => ?_) (fun c97 hs => ?_)))))))
       ·
        refine wh_ok 3 (Keep.refl BE _) rfl (want_on rfl (congrArg Value.bool c97)) (by kernel_rfl) (by kernel_rfl) (by kernel_rfl) (fun w hk => have h := h.grow hk; r_ldBN (vs := [u22, u24]) h 18 rfl Many37 rfl rfl rfl) (wh_ok 4 (Keep.refl BE _) rfl (want_on rfl (congrArg Value.bool c97)) (by kernel_rfl) (by kernel_rfl) (by kernel_rfl) (fun w hk => r_fieldAddr Fld37x0 rfl) (wh_ok 5 (Keep.refl BE _) rfl (want_on rfl (congrArg Value.bool c97)) (by kernel_rfl) (by kernel_rfl) (by kernel_rfl) (fun w hk => have h := h.grow hk; r_ldB h 7 rfl One35 rfl rfl) (wh_ok 6 (Keep.refl BE _) rfl (want_on rfl (congrArg Value.bool c97)) (by kernel_rfl) (by kernel_rfl) (by kernel_rfl) (fun w hk => r_fieldAddr Fld37x1 rfl) (wh_ok 7 (Keep.refl BE _) rfl (want_on rfl (congrArg Value.bool c97)) (by kernel_rfl) (by kernel_rfl) (by kernel_rfl) (fun w hk => have h := h.grow hk; r_ldB h 7 rfl One35 rfl rfl) (wh_ok 8 (Keep.refl BE _) rfl (want_on rfl (congrArg Value.bool c97)) (by kernel_rfl) (by kernel_rfl) (by kernel_rfl) (fun w hk => r_move (v := (.int .i64 (c))) rfl) ?_)))))
        obtain ⟨xq96x9_1, eq96x9_2, hs⟩ := o_bind hs
        obtain ⟨eq96x9_5, eq96x9_5a, eq96x9_5b, eq96x9_5c⟩ := o_sub eq96x9_2
        obtain ⟨uq96x9_3, h, iq96x9_4⟩ := h.slR 2 142 rfl SliceOf35 rfl eq96x9_5a eq96x9_5b eq96x9_5c
        rw [← eq96x9_5] at h
        refine wh_ok 9 (Keep.refl BE _) rfl (want_on rfl (congrArg Value.bool c97)) (by kernel_rfl) (by kernel_rfl) (by kernel_rfl) (fun w hk => iq96x9_4 _ _ _ _ _ _ _ _ _ _ rfl (.inl ⟨rfl, rfl⟩) (.inr (congrArg some rfl))) (wh_ok 10 (Keep.refl BE _) rfl (want_on rfl (congrArg Value.bool c97)) (by kernel_rfl) (by kernel_rfl) (by kernel_rfl) (fun w hk => r_build (pv := [(0, va0), (1, uq96x9_3)]) (out := [va0, uq96x9_3]) Struct37 rfl ⟨0, 1, [va0], rfl, (toList_of_one (h.rdAt 1 rfl).one), rfl, Nat.le_of_ble_eq_true rfl, ⟨1, 1, [uq96x9_3], rfl, (toList_of_one (h.rdAt 142 rfl).one), rfl, Nat.le_of_ble_eq_true rfl, rfl⟩⟩) ?_)
        obtain ⟨ws98, ws98e⟩ : ∃ x, x = w := ⟨_, rfl⟩
        have hg99 : Grow ws98 w := ws98e ▸ Keep.refl BE w
        refine wh_at ws98e.symm (wh_eff 11 (by kernel_rfl) rfl (want_on rfl (congrArg Value.bool c97)) ?_)
        obtain ⟨yq96x11_1, eq96x11_2, hs⟩ := o_bind hs
        refine w_call fnOk28 rfl rfl (wandererref_SameDisk_c _ _ h.lt y20.1 u22 u24 (h.rdS 16 rfl) (h.rdS 17 rfl) (⟨a.safe, xq96x9_1⟩ : Disk) va0 uq96x9_3 (h.rdS 1 rfl) (h.rdS 142 rfl) _ eq96x11_2) ?_
        rintro _ w ⟨kq96x11_3, rfl⟩
        refine ⟨_, rfl, ?_⟩
        replace h := h.grow kq96x11_3
        replace hg99 := hg99.trans kq96x11_3
        refine wl_nil (wh_back hg99 (wh_ok 12 hg99 rfl want_none (by kernel_rfl) (by kernel_rfl) (by kernel_rfl) (fun w hk => r_pick (b := true) (v := (.bool (yq96x11_1))) (congrArg Value.bool c97) rfl) (wh_ok 13 hg99 rfl want_none (by kernel_rfl) (by kernel_rfl) (by kernel_rfl) (fun w hk => r_assign (v := (.bool (yq96x11_1))) rfl) (wh_done (by kernel_rfl) (then_normal (wc_ret (fin1 (v := (.bool (yq96x11_1))) Tryd.results6 rfl ?_)))))))
        obtain rfl := Option.some.inj hs
        exact ⟨h.grown, rfl⟩
       ·
        refine wh_skip 3 (Keep.refl BE _) rfl (want_off (b' := false) rfl (congrArg Value.bool c97) rfl) (by kernel_rfl) (by kernel_rfl) (by kernel_rfl) (wh_skip 4 (Keep.refl BE _) rfl (want_off (b' := false) rfl (congrArg Value.bool c97) rfl) (by kernel_rfl) (by kernel_rfl) (by kernel_rfl) (wh_skip 5 (Keep.refl BE _) rfl (want_off (b' := false) rfl (congrArg Value.bool c97) rfl) (by kernel_rfl) (by kernel_rfl) (by kernel_rfl) (wh_skip 6 (Keep.refl BE _) rfl (want_off (b' := false) rfl (congrArg Value.bool c97) rfl) (by kernel_rfl) (by kernel_rfl) (by kernel_rfl) (wh_skip 7 (Keep.refl BE _) rfl (want_off (b' := false) rfl (congrArg Value.bool c97) rfl) (by kernel_rfl) (by kernel_rfl) (by kernel_rfl) (wh_skip 8 (Keep.refl BE _) rfl (want_off (b' := false) rfl (congrArg Value.bool c97) rfl) (by kernel_rfl) (by kernel_rfl) (by kernel_rfl) (wh_skip 9 (Keep.refl BE _) rfl (want_off (b' := false) rfl (congrArg Value.bool c97) rfl) (by kernel_rfl) (by kernel_rfl) (by kernel_rfl) (wh_skip 10 (Keep.refl BE _) rfl (want_off (b' := false) rfl (congrArg Value.bool c97) rfl) (by kernel_rfl) (by kernel_rfl) (by kernel_rfl) (wh_skip 11 (Keep.refl BE _) rfl (want_off (b' := false) rfl (congrArg Value.bool c97) rfl) (by kernel_rfl) (by kernel_rfl) (by kernel_rfl) (wh_ok 12 (Keep.refl BE _) rfl want_none (by kernel_rfl) (by kernel_rfl) (by kernel_rfl) (fun w hk => r_pick (b := false) (v := (.bool (false))) (congrArg Value.bool c97) rfl) (wh_ok 13 (Keep.refl BE _) rfl want_none (by kernel_rfl) (by kernel_rfl) (by kernel_rfl) (fun w hk => r_assign (v := (.bool (false))) rfl) (wh_done (by kernel_rfl) (then_normal (wc_ret (fin1 (v := (.bool (false))) Tryd.results6 rfl ?_))))))))))))))
        obtain rfl := Option.some.inj hs
        exact ⟨h.grown, rfl⟩
    ·
     refine wc_region (wl_ok (r_move (v := (.int .i64 (y4.2))) rfl) (wl_ok (r_move (v := (.int .i64 (y62.2))) rfl) (wl_ok (r_neq rfl rfl) (wl_ok (r_move (v := (.bool (decide ((y4.2 : Int) ≠ y62.2)))) rfl) (c_split (b := decide ((y4.2 : Int) ≠ y62.2)) hs (fun c100 hs => ?_) (fun c100 hs => ?_))))))
     ·
      refine wl_off (b' := true) rfl (congrArg Value.bool c100) rfl (wl_off (b' := true) rfl (congrArg Value.bool c100) rfl (wl_off (b' := true) rfl (congrArg Value.bool c100) rfl (wl_off (b' := true) rfl (congrArg Value.bool c100) rfl (wl_ok (r_pick (b := true) (v := (.bool (true))) (congrArg Value.bool c100) rfl) (wl_ok (r_move (v := (.bool (true))) rfl) (wl_off (b' := true) rfl rfl rfl (wl_off (b' := true) rfl rfl rfl (wl_off (b' := true) rfl rfl rfl (wl_ok (r_pick (b := true) (v := (.bool (true))) rfl rfl) (wl_ok (r_move (v := (.bool (true))) rfl) (wl_off (b' := true) rfl rfl rfl (wl_off (b' := true) rfl rfl rfl (wl_off (b' := true) rfl rfl rfl (wl_off (b' := true) rfl rfl rfl (wl_ok (r_pick (b := true) (v := (.bool (true))) rfl rfl) (wl_ok (r_move (v := (.bool (true))) rfl) (wl_off (b' := true) rfl rfl rfl (wl_off (b' := true) rfl rfl rfl (wl_ok (r_pick (b := true) (v := (.bool (true))) rfl rfl) (wl_ok (r_move (v := (.bool (true))) rfl) (wl_off (b' := true) rfl rfl rfl (wl_off (b' := true) rfl rfl rfl (wl_off (b' := true) rfl rfl rfl ?_)))))))))))))))))))))))
      refine wl_off (b' := true) rfl rfl rfl (wl_ok (r_pick (b := true) (v := (.bool (true))) rfl rfl) (wl_ok (r_move (v := (.bool (true))) rfl) (wl_off (b' := true) rfl rfl rfl (wl_off (b' := true) rfl rfl rfl (wl_off (b' := true) rfl rfl rfl (wl_off (b' := true) rfl rfl rfl (wl_ok (r_pick (b := true) (v := (.bool (true))) rfl rfl) (wl_nil (then_loop ?_)))))))))
      exact jend true ⟨h.cn _, hs⟩
     ·
      refine wl_on rfl (congrArg Value.bool c100) (wl_ok (r_ldBN (vs := [u6, u8]) h 12 rfl Many37 rfl rfl rfl) (wl_on rfl (congrArg Value.bool c100) (wl_ok (r_ldBN (vs := [u64, u66]) h 26 rfl Many37 rfl rfl rfl) (wl_on rfl (congrArg Value.bool c100) ?_))))
      obtain ⟨y101, e102, hs⟩ := o_bind hs
      refine w_call fnOk28 rfl rfl (wandererref_SameDisk_c _ _ h.lt y4.1 u6 u8 (h.rdS 10 rfl) (h.rdS 11 rfl) y62.1 u64 u66 (h.rdS 24 rfl) (h.rdS 25 rfl) _ e102) ?_
      rintro _ w ⟨k103, rfl⟩
      refine ⟨_, rfl, ?_⟩
      replace h := h.grow k103
      refine wl_on rfl (congrArg Value.bool c100) (wl_ok (r_notb rfl) (wl_ok (r_pick (b := false) (v := (.bool ((!y101)))) (congrArg Value.bool c100) rfl) (wl_ok (r_move (v := (.bool ((!y101)))) rfl) (wl_gd0 rfl rfl (fun q => r_move (v := (.int .i64 (y12.2))) rfl) (wl_gd0 rfl rfl (fun q => r_move (v := (.int .i64 (y70.2))) rfl) (wl_gd0 rfl rfl (fun q => r_neq (gvt q) (gvt q)) (wl_ok (r_por rfl rfl evc) (wl_ok (r_move (v := (.bool (((!y101) || decide ((y12.2 : Int) ≠ y70.2))))) rfl) (c_split (b := ((!y101) || decide ((y12.2 : Int) ≠ y70.2))) hs (fun c104 hs => ?_) (fun c104 hs => ?_))))))))))
      ·
       refine wl_off (b' := true) rfl (congrArg Value.bool c104) rfl (wl_off (b' := true) rfl (congrArg Value.bool c104) rfl (wl_off (b' := true) rfl (congrArg Value.bool c104) rfl (wl_off (b' := true) rfl (congrArg Value.bool c104) rfl (wl_ok (r_pick (b := true) (v := (.bool (true))) (congrArg Value.bool c104) rfl) (wl_ok (r_move (v := (.bool (true))) rfl) (wl_off (b' := true) rfl rfl rfl (wl_off (b' := true) rfl rfl rfl (wl_ok (r_pick (b := true) (v := (.bool (true))) rfl rfl) (wl_ok (r_move (v := (.bool (true))) rfl) (wl_off (b' := true) rfl rfl rfl (wl_off (b' := true) rfl rfl rfl (wl_off (b' := true) rfl rfl rfl (wl_off (b' := true) rfl rfl rfl (wl_ok (r_pick (b := true) (v := (.bool (true))) rfl rfl) (wl_ok (r_move (v := (.bool (true))) rfl) (wl_off (b' := true) rfl rfl rfl (wl_off (b' := true) rfl rfl rfl (wl_off (b' := true) rfl rfl rfl (wl_off (b' := true) rfl rfl rfl (wl_ok (r_pick (b := true) (v := (.bool (true))) rfl rfl) (wl_nil (then_loop ?_))))))))))))))))))))))
       exact jend true ⟨h.cn _, hs⟩
      ·
       refine wl_on rfl (congrArg Value.bool c104) (wl_ok (r_ldBN (vs := [u14, u16]) h 15 rfl Many37 rfl rfl rfl) (wl_on rfl (congrArg Value.bool c104) (wl_ok (r_ldBN (vs := [u72, u74]) h 29 rfl Many37 rfl rfl rfl) (wl_on rfl (congrArg Value.bool c104) ?_))))
       obtain ⟨y105, e106, hs⟩ := o_bind hs
       refine w_call fnOk28 rfl rfl (wandererref_SameDisk_c _ _ h.lt y12.1 u14 u16 (h.rdS 13 rfl) (h.rdS 14 rfl) y70.1 u72 u74 (h.rdS 27 rfl) (h.rdS 28 rfl) _ e106) ?_
       rintro _ w ⟨k107, rfl⟩
       refine ⟨_, rfl, ?_⟩
       replace h := h.grow k107
       refine wl_on rfl (congrArg Value.bool c104) (wl_ok (r_notb rfl) (wl_ok (r_pick (b := false) (v := (.bool ((!y105)))) (congrArg Value.bool c104) rfl) (wl_ok (r_move (v := (.bool ((!y105)))) rfl) (wl_gd0 rfl rfl (fun q => r_move (v := (.int .i64 (y28.2.2))) rfl) (wl_gd0 rfl rfl (fun q => r_neq (gvt q) rfl) (wl_ok (r_por rfl rfl evc) (wl_ok (r_move (v := (.bool (((!y105) || decide ((y28.2.2 : Int) ≠ 0))))) rfl) (c_split (b := ((!y105) || decide ((y28.2.2 : Int) ≠ 0))) hs (fun c108 hs => ?_) (fun c108 hs => ?_)))))))))
       ·
        refine wl_off (b' := true) rfl (congrArg Value.bool c108) rfl (wl_off (b' := true) rfl (congrArg Value.bool c108) rfl (wl_off (b' := true) rfl (congrArg Value.bool c108) rfl (wl_off (b' := true) rfl (congrArg Value.bool c108) rfl (wl_ok (r_pick (b := true) (v := (.bool (true))) (congrArg Value.bool c108) rfl) (wl_ok (r_move (v := (.bool (true))) rfl) (wl_off (b' := true) rfl rfl rfl (wl_off (b' := true) rfl rfl rfl (wl_off (b' := true) rfl rfl rfl (wl_off (b' := true) rfl rfl rfl (wl_ok (r_pick (b := true) (v := (.bool (true))) rfl rfl) (wl_nil (then_loop ?_))))))))))))
        exact jend true ⟨h.cn _, hs⟩
       ·
        refine wl_on rfl (congrArg Value.bool c108) (wl_ok (r_ldBN (vs := [u30, u32]) h 22 rfl Many37 rfl rfl rfl) (wl_on rfl (congrArg Value.bool c108) (wl_ok (r_ldBN (vs := [u80, u82]) h 33 rfl Many37 rfl rfl rfl) (wl_on rfl (congrArg Value.bool c108) ?_))))
        obtain ⟨y109, e110, hs⟩ := o_bind hs
        refine w_call fnOk28 rfl rfl (wandererref_SameDisk_c _ _ h.lt y28.1 u30 u32 (h.rdS 19 rfl) (h.rdS 20 rfl) y78.1 u80 u82 (h.rdS 30 rfl) (h.rdS 31 rfl) _ e110) ?_
        rintro _ w ⟨k111, rfl⟩
        refine ⟨_, rfl, ?_⟩
        replace h := h.grow k111
        refine wl_on rfl (congrArg Value.bool c108) (wl_ok (r_notb rfl) (wl_ok (r_pick (b := false) (v := (.bool ((!y109)))) (congrArg Value.bool c108) rfl) (wl_ok (r_move (v := (.bool ((!y109)))) rfl) (c_split (b := (!y109)) hs (fun c112 hs => ?_) (fun c112 hs => ?_)))))
        ·
         refine wl_off (b' := true) rfl (congrArg Value.bool c112) rfl (wl_off (b' := true) rfl (congrArg Value.bool c112) rfl (wl_off (b' := true) rfl (congrArg Value.bool c112) rfl (wl_off (b' := true) rfl (congrArg Value.bool c112) rfl (wl_ok (r_pick (b := true) (v := (.bool (true))) (congrArg Value.bool c112) rfl) (wl_nil (then_loop ?_))))))
         exact jend true ⟨h.cn _, hs⟩
        ·
         refine wl_on rfl (congrArg Value.bool c112) (wl_ok (r_move (v := u34) rfl) (wl_on rfl (congrArg Value.bool c112) (wl_ok (r_move (v := u84) rfl) (wl_on rfl (congrArg Value.bool c112) (w_callIn (args := [u34, u84, (.func (.func 14) #[] #[])]) fnOk23 rfl rfl (calls_start (args := [u34, u84, (.func (.func 14) #[] #[])]) Tryd.func23 rfl Tryd.ntmps23 (Nat.le_of_ble_eq_true rfl) (wc_seq (wc_region (wl_ok (r_assign (v := (.bool (false))) rfl) (wl_nil (then_normal (wc_seq (wc_seq (wc_region (wl_ok (r_move (v := u34) rfl) (wl_ok (r_len SliceOf34 rfl (h.ownS 21 rfl)) (wl_ok (r_move (v := u84) rfl) (wl_ok (r_len SliceOf34 rfl (h.ownS 32 rfl)) (wl_ok (r_neq rfl rfl) (wl_nil (then_normal (wc_ifb hs rfl (fun c113 hs => ?_) (fun c113 hs => ?_)))))))))))))))))))))))
         ·
          refine wc_seq (wc_region (wl_ok (r_assign (v := (.bool (false))) rfl) (wl_nil (then_normal (wc_ret (then_ret (fin1 (v := (.bool (false))) Tryd.results23 rfl (⟨_, rfl, ?_⟩))))))))
          refine wl_on rfl (congrArg Value.bool c112) (wl_ok (r_notb rfl) (wl_ok (r_pick (b := false) (v := (.bool (true))) (congrArg Value.bool c112) rfl) (wl_nil (then_loop ?_))))
          exact jend true ⟨h.cn _, hs⟩
         ·
          refine wc_skip (then_normal (wc_seq (wc_seq (wc_region (wl_ok (r_move (v := u34) rfl) (wl_ok (r_len SliceOf34 rfl (h.ownS 21 rfl)) (wl_ok (r_move (v := (.int .i64 (0))) rfl) (wl_nil (then_normal (wc_block ?_))))))))))
          have hli115 := (h.ownS 21 rfl).len_le
          refine wc_lp (σ := Nat × Int) (inl [6, 7, 8, 9, 17, 18, 19, 20, 21, 22, 23, 24, 25, 26, 27, 28, 29, 30, 31]) (fun ⟨k114, i115⟩ => [(17, (.int .i64 (i115)))]) (fun ⟨k114, i115⟩ w => SH w0 M BE w (hset [(1, .rd rByte va0 a.safe), (2, .rd rByte va1 a.wait), (3, .rd rInt vb4 b.says), (4, .rd rInt vb5 b.image), (7, .blk b1 [va0, va1]), (8, .blk b2 [(.int .i64 (b.kind)), (.int .i64 (b.co)), (.int .i64 (b.epoch)), (.int .i64 (b.place)), vb4, vb5]), (10, .rd rByte u6 y4.1.safe), (11, .rd rByte u8 y4.1.wait), (12, .blk b11 [u6, u8]), (13, .rd rByte u14 y12.1.safe), (14, .rd rByte u16 y12.1.wait), (15, .blk b19 [u14, u16]), (16, .rd rByte u22 y20.1.safe), (17, .rd rByte u24 y20.1.wait), (18, .blk b27 [u22, u24]), (19, .rd rByte u30 y28.1.safe), (20, .rd rByte u32 y28.1.wait), (21, .own rRec 24 u34 y28.2.1), (22, .blk b38 [u30, u32]), (23, .blk b42 [(.slice none 0 0), (.slice none 0 0)]), (24, .rd rByte u64 y62.1.safe), (25, .rd rByte u66 y62.1.wait), (26, .blk b69 [u64, u66]), (27, .rd rByte u72 y70.1.safe), (28, .rd rByte u74 y70.1.wait), (29, .blk b77 [u72, u74]), (30, .rd rByte u80 y78.1.safe), (31, .rd rByte u82 y78.1.wait), (32, .own rRec 24 u84 y78.2), (33, .blk b88 [u80, u82])]) ∧ i115 = (k114 : Int) ∧ upto (wandererlaw_DiskSays_b19 y28 y78 c a y20) (wandererlaw_DiskSays_k20 c a y20) i115 (((y28.2.1.length : Int)).toNat - k114) () = some r) (fun ⟨k114, i115⟩ => ((y28.2.1.length : Int)).toNat - k114) ⟨0, 0⟩ ⟨rfl, trivial⟩ ?_ ?_
          ·
           exact ⟨h.cn _, rfl, hs⟩
          ·
           rintro ⟨k114, i115⟩ w junk ⟨h, hik, hs⟩
           refine wc_seq (wc_region ?_)
           refine wl_ok (r_lss rfl rfl) (wl_nil (then_normal ?_))
           refine wc_seq (wc_if rfl (fun e119 => ?_) (fun e119 => ?_))
           ·
            refine wc_skip (then_normal ?_)
            rw [upto_lt (by have := of_decide_eq_true e119; omega)] at hs
            generalize hnx118 : upto (wandererlaw_DiskSays_b19 y28 y78 c a y20) (wandererlaw_DiskSays_k20 c a y20) (i115 + 1) (((y28.2.1.length : Int)).toNat - (k114 + 1)) = nx118 at hs
            have e120r : I64 (i115 + 1) := (by have := of_decide_eq_true e119; have := hli115; exact I64.mk (by omega) (by omega))
            refine wc_seq (wc_block (wc_seq (wc_region (wl_ok (r_move (v := (.int .i64 (i115))) rfl) ?_))))
            obtain ⟨x121, e122, hs⟩ := o_bind hs
            obtain ⟨b124, q125, i123⟩ := h.ixO 21 rfl SliceOf34 rfl (o_idx e122).1 (o_idx e122).2
            refine wl_ok (i123 _ _ _ _ _ _ _ _ _ rfl rfl) ?_
            obtain ⟨cs126, m127, r128⟩ := h.elO 21 rfl q125 (o_idx e122).2
            obtain ⟨u129, u131, rfl, g130, g132⟩ := rRec_open r128
            replace h := h.knowRd 214 g130
            replace h := h.knowRd 215 g132.up
            refine wl_ok (r_ldAN (k := 0) (vs := [(.int .i64 (x121.kind)), (.int .i64 (x121.co)), (.int .i64 (x121.epoch)), (.int .i64 (x121.place)), u129, u131]) m127 Many24 rfl rfl rfl (Nat.le_of_ble_eq_true rfl)) (w_allocN h 216 Many24 fun w b133 h => wl_ok (r_assign (v := (.int .i64 (i115))) rfl) (w_stN (vs := [(.int .i64 (x121.kind)), (.int .i64 (x121.co)), (.int .i64 (x121.epoch)), (.int .i64 (x121.place)), u129, u131]) h 216 [(.int .i64 (x121.kind)), (.int .i64 (x121.co)), (.int .i64 (x121.epoch)), (.int .i64 (x121.place)), u129, u131] rfl Many24 rfl rfl rfl rfl rfl (ones_cons rfl (ones_cons rfl (ones_cons rfl (ones_cons rfl (ones_cons (h.rdAt 214 rfl).one (ones_cons (h.rdAt 215 rfl).one ones_nil)))))) fun w h => wl_nil (then_normal (wc_seq (wc_region (wl_ok (r_move (v := u84) rfl) (wl_ok (r_move (v := (.int .i64 (i115))) rfl) ?_)))))))
            obtain ⟨x134, e135, hs⟩ := o_bind hs
            obtain ⟨b137, q138, i136⟩ := h.ixO 32 rfl SliceOf34 rfl (o_idx e135).1 (o_idx e135).2
            refine wl_ok (i136 _ _ _ _ _ _ _ _ _ rfl rfl) ?_
            obtain ⟨cs139, m140, r141⟩ := h.elO 32 rfl q138 (o_idx e135).2
            obtain ⟨u142, u144, rfl, g143, g145⟩ := rRec_open r141
            replace h := h.knowRd 217 g143
            replace h := h.knowRd 218 g145.up
            refine wl_ok (r_ldAN (k := 0) (vs := [(.int .i64 (x134.kind)), (.int .i64 (x134.co)), (.int .i64 (x134.epoch)), (.int .i64 (x134.place)), u142, u144]) m140 Many24 rfl rfl rfl (Nat.le_of_ble_eq_true rfl)) (w_allocN h 219 Many24 fun w b146 h => w_stN (vs := [(.int .i64 (x134.kind)), (.int .i64 (x134.co)), (.int .i64 (x134.epoch)), (.int .i64 (x134.place)), u142, u144]) h 219 [(.int .i64 (x134.kind)), (.int .i64 (x134.co)), (.int .i64 (x134.epoch)), (.int .i64 (x134.place)), u142, u144] rfl Many24 rfl rfl rfl rfl rfl (ones_cons rfl (ones_cons rfl (ones_cons rfl (ones_cons rfl (ones_cons (h.rdAt 217 rfl).one (ones_cons (h.rdAt 218 rfl).one ones_nil)))))) fun w h => wl_nil (then_normal (wc_seq (wc_region (wl_ok (r_move (v := (.func (.func 14) #[] #[])) rfl) (wl_ok (r_ldBN (vs := [(.int .i64 (x121.kind)), (.int .i64 (x121.co)), (.int .i64 (x121.epoch)), (.int .i64 (x121.place)), u129, u131]) h 216 rfl Many24 rfl rfl rfl) (wl_ok (r_ldBN (vs := [(.int .i64 (x134.kind)), (.int .i64 (x134.co)), (.int .i64 (x134.epoch)), (.int .i64 (x134.place)), u142, u144]) h 219 rfl Many24 rfl rfl rfl) ?_)))))))
            obtain ⟨y147, e148, hs⟩ := o_bind hs
            refine w_call fnOk14 rfl rfl (wandererref_SameRec_c _ _ h.lt x121 u129 u131 (h.rdS 214 rfl) (h.rdS 215 rfl) x134 u142 u144 (h.rdS 217 rfl) (h.rdS 218 rfl) _ e148) ?_
            rintro _ w ⟨k149, rfl⟩
            refine ⟨_, rfl, ?_⟩
            replace h := h.grow k149
            refine wl_ok (r_notb rfl) (wl_nil (then_normal (wc_ifb hs rfl (fun c150 hs => ?_) (fun c150 hs => ?_))))
            ·
             refine wc_seq (wc_region (wl_ok (r_assign (v := (.bool (false))) rfl) (wl_nil (then_normal (wc_ret (inBlock_ret (then_ret (then_ret (inBlock_ret (then_ret (fin1 (v := (.bool (false))) Tryd.results23 rfl (⟨_, rfl, ?_⟩))))))))))))
             refine wl_on rfl (congrArg Value.bool c112) (wl_ok (r_notb rfl) (wl_ok (r_pick (b := false) (v := (.bool (true))) (congrArg Value.bool c112) rfl) (wl_nil (then_loop ?_))))
             exact jend true ⟨h.cn _, hs⟩
            ·
             refine wc_skip (inBlock_normal (then_normal (wc_region (wl_ok (r_add rfl rfl e120r) (wl_ok (r_move (v := (.int .i64 ((i115 + 1)))) rfl) (wl_nil (then_loop ?_)))))))
             subst hnx118
             exact lend ⟨k114 + 1, i115 + 1⟩ ⟨h.cn _, by omega, hs⟩ (by have := of_decide_eq_true e119; dsimp only; omega)
           ·
            rw [upto_ge (by have := of_decide_eq_false e119; omega)] at hs
            refine wc_exit (then_exit (then_exit (inBlock_eq (then_normal (wc_seq (wc_region (wl_ok (r_assign (v := (.bool (true))) rfl) (wl_nil (then_normal (wc_ret (fin1 (v := (.bool (true))) Tryd.results23 rfl (⟨_, rfl, ?_⟩))))))))))))
            refine wl_on rfl (congrArg Value.bool c112) (wl_ok (r_notb rfl) (wl_ok (r_pick (b := false) (v := (.bool (false))) (congrArg Value.bool c112) rfl) (wl_nil (then_loop ?_))))
            exact jend false ⟨h.cn _, hs⟩
 ·
  refine wc_held mixed h fun w h => ?_
  obtain ⟨ws152, ws152e⟩ : ∃ x, x = w := ⟨_, rfl⟩
  have hg153 : Grow ws152 w := ws152e ▸ Keep.refl BE w
  refine wh_at ws152e.symm (wh_eff 0 (by kernel_rfl) rfl want_none ?_)
  obtain ⟨yq151x0_1, eq151x0_2, hs⟩ := o_bind hs
  refine w_call fnOk16 rfl rfl (wandererlaw_filed_c N _ _ h.lt (hT.go h.keep)  _ eq151x0_2) ?_
  rintro _ w ⟨kq151x0_3, rfl⟩
  refine ⟨_, rfl, ?_⟩
  replace h := h.grow kq151x0_3
  replace hg153 := hg153.trans kq151x0_3
  refine wl_nil (wh_back hg153 (wh_ok 1 hg153 rfl want_none (by kernel_rfl) (by kernel_rfl) (by kernel_rfl) (fun w hk => r_notb rfl) (wh_ok 2 hg153 rfl want_none (by kernel_rfl) (by kernel_rfl) (by kernel_rfl) (fun w hk => r_move (v := (.bool ((!yq151x0_1)))) rfl) (c_split (b := (!yq151x0_1)) hs (fun c154 hs => ?_) (fun c154 hs => ?_)))))
  ·
   refine wh_skip 3 hg153 rfl (want_off (b' := true) rfl (congrArg Value.bool c154) rfl) (by kernel_rfl) (by kernel_rfl) (by kernel_rfl) (wh_skip 4 hg153 rfl (want_off (b' := true) rfl (congrArg Value.bool c154) rfl) (by kernel_rfl) (by kernel_rfl) (by kernel_rfl) (wh_skip 5 hg153 rfl (want_off (b' := true) rfl (congrArg Value.bool c154) rfl) (by kernel_rfl) (by kernel_rfl) (by kernel_rfl) (wh_skip 6 hg153 rfl (want_off (b' := true) rfl (congrArg Value.bool c154) rfl) (by kernel_rfl) (by kernel_rfl) (by kernel_rfl) (wh_ok 7 hg153 rfl want_none (by kernel_rfl) (by kernel_rfl) (by kernel_rfl) (fun w hk => r_pick (b := true) (v := (.bool (true))) (congrArg Value.bool c154) rfl) (wh_ok 8 hg153 rfl want_none (by kernel_rfl) (by kernel_rfl) (by kernel_rfl) (fun w hk => r_move (v := (.bool (true))) rfl) (wh_skip 9 hg153 rfl (want_off (b' := true) rfl rfl rfl) (by kernel_rfl) (by kernel_rfl) (by kernel_rfl) (wh_skip 10 hg153 rfl (want_off (b' := true) rfl rfl rfl) (by kernel_rfl) (by kernel_rfl) (by kernel_rfl) (wh_skip 11 hg153 rfl (want_off (b' := true) rfl rfl rfl) (by kernel_rfl) (by kernel_rfl) (by kernel_rfl) (wh_skip 12 hg153 rfl (want_off (b' := true) rfl rfl rfl) (by kernel_rfl) (by kernel_rfl) (by kernel_rfl) (wh_skip 13 hg153 rfl (want_off (b' := true) rfl rfl rfl) (by kernel_rfl) (by kernel_rfl) (by kernel_rfl) (wh_skip 14 hg153 rfl (want_off (b' := true) rfl rfl rfl) (by kernel_rfl) (by kernel_rfl) (by kernel_rfl) (wh_skip 15 hg153 rfl (want_off (b' := true) rfl rfl rfl) (by kernel_rfl) (by kernel_rfl) (by kernel_rfl) (wh_ok 16 hg153 rfl want_none (by kernel_rfl) (by kernel_rfl) (by kernel_rfl) (fun w hk => r_pick (b := true) (v := (.bool (true))) rfl rfl) (wh_done (by kernel_rfl) (then_loop ?_)))))))))))))))
   exact jend true ⟨h.cn _, hs⟩
  ·
   refine wh_base hg153 ?_
   obtain ⟨wsq151x3_1, wsq151x3_1e⟩ : ∃ x, x = w := ⟨_, rfl⟩
   have hgq151x3_2 : Grow wsq151x3_1 w := wsq151x3_1e ▸ Keep.refl _ _
   refine wh_ok 3 (Keep.refl BE _) rfl (want_on rfl (congrArg Value.bool c154)) (by kernel_rfl) (by kernel_rfl) (by kernel_rfl) (fun w hk => have h := h.grow hk; r_ldBN (vs := [va0, va1]) h 7 rfl Many37 rfl rfl rfl) (wh_ok 5 (Keep.refl BE _) rfl (want_on rfl (congrArg Value.bool c154)) (by kernel_rfl) (by kernel_rfl) (by kernel_rfl) (fun w hk => r_move (v := (.int .i64 (y39))) rfl) ?_)
   obtain ⟨ws155, ws155e⟩ : ∃ x, x = w := ⟨_, rfl⟩
   have hg156 : Grow ws155 w := ws155e ▸ Keep.refl BE w
   refine wh_at ws155e.symm (wh_eff 4 (by kernel_rfl) rfl (want_on rfl (congrArg Value.bool c154)) ?_)
   obtain ⟨yq151x4_1, eq151x4_2, hs⟩ := o_bind hs
   refine w_call fnOk27 rfl rfl (disk_Check_c N _ _ h.lt (hT.go h.keep) a va0 va1 (h.rdS 1 rfl) (h.rdS 2 rfl) _ eq151x4_2) ?_
   rintro _ w ⟨kq151x4_3, rfl⟩
   refine ⟨_, rfl, ?_⟩
   replace h := h.grow kq151x4_3
   replace hg156 := hg156.trans kq151x4_3
   refine wl_nil (wh_back hg156 (wh_ok 6 hg156 rfl (want_on rfl (congrArg Value.bool c154)) (by kernel_rfl) (by kernel_rfl) (by kernel_rfl) (fun w hk => r_neq rfl rfl) (wh_ok 7 hg156 rfl want_none (by kernel_rfl) (by kernel_rfl) (by kernel_rfl) (fun w hk => r_pick (b := false) (v := (.bool (decide ((yq151x4_1 : Int) ≠ y39)))) (congrArg Value.bool c154) rfl) (wh_ok 8 hg156 rfl want_none (by kernel_rfl) (by kernel_rfl) (by kernel_rfl) (fun w hk => r_move (v := (.bool (decide ((yq151x4_1 : Int) ≠ y39)))) rfl) (c_split (b := decide ((yq151x4_1 : Int) ≠ y39)) hs (fun c157 hs => ?_) (fun c157 hs => ?_))))))
   ·
    refine wh_skip 9 hg156 rfl (want_off (b' := true) rfl (congrArg Value.bool c157) rfl) (by kernel_rfl) (by kernel_rfl) (by kernel_rfl) (wh_skip 10 hg156 rfl (want_off (b' := true) rfl (congrArg Value.bool c157) rfl) (by kernel_rfl) (by kernel_rfl) (by kernel_rfl) (wh_skip 11 hg156 rfl (want_off (b' := true) rfl (congrArg Value.bool c157) rfl) (by kernel_rfl) (by kernel_rfl) (by kernel_rfl) (wh_skip 12 hg156 rfl (want_off (b' := true) rfl (congrArg Value.bool c157) rfl) (by kernel_rfl) (by kernel_rfl) (by kernel_rfl) (wh_skip 13 hg156 rfl (want_off (b' := true) rfl (congrArg Value.bool c157) rfl) (by kernel_rfl) (by kernel_rfl) (by kernel_rfl) (wh_skip 14 hg156 rfl (want_off (b' := true) rfl (congrArg Value.bool c157) rfl) (by kernel_rfl) (by kernel_rfl) (by kernel_rfl) (wh_skip 15 hg156 rfl (want_off (b' := true) rfl (congrArg Value.bool c157) rfl) (by kernel_rfl) (by kernel_rfl) (by kernel_rfl) (wh_ok 16 hg156 rfl want_none (by kernel_rfl) (by kernel_rfl) (by kernel_rfl) (fun w hk => r_pick (b := true) (v := (.bool (true))) (congrArg Value.bool c157) rfl) (wh_done (by kernel_rfl) (then_loop ?_)))))))))
    exact jend true ⟨h.cn _, hs⟩
   ·
    refine wh_base hg156 ?_
    obtain ⟨wsq151x9_1, wsq151x9_1e⟩ : ∃ x, x = w := ⟨_, rfl⟩
    have hgq151x9_2 : Grow wsq151x9_1 w := wsq151x9_1e ▸ Keep.refl _ _
    refine wh_ok 9 (Keep.refl BE _) rfl (want_on rfl (congrArg Value.bool c157)) (by kernel_rfl) (by kernel_rfl) (by kernel_rfl) (fun w hk => have h := h.grow hk; r_ldBN (vs := [va0, va1]) h 7 rfl Many37 rfl rfl rfl) (wh_ok 10 (Keep.refl BE _) rfl (want_on rfl (congrArg Value.bool c157)) (by kernel_rfl) (by kernel_rfl) (by kernel_rfl) (fun w hk => have h := h.grow hk; r_ldBN (vs := [vd0, vd1]) h 9 rfl Many37 rfl rfl rfl) (wh_ok 12 (Keep.refl BE _) rfl (want_on rfl (congrArg Value.bool c157)) (by kernel_rfl) (by kernel_rfl) (by kernel_rfl) (fun w hk => have h := h.grow hk; r_ldBN (vs := [va0, va1]) h 7 rfl Many37 rfl rfl rfl) (wh_ok 13 (Keep.refl BE _) rfl (want_on rfl (congrArg Value.bool c157)) (by kernel_rfl) (by kernel_rfl) (by kernel_rfl) (fun w hk => have h := h.grow hk; r_ldBN (vs := [vd0, vd1]) h 9 rfl Many37 rfl rfl rfl) ?_)))
    obtain ⟨ws158, ws158e⟩ : ∃ x, x = w := ⟨_, rfl⟩
    have hg159 : Grow ws158 w := ws158e ▸ Keep.refl BE w
    refine wh_at ws158e.symm (wh_eff 11 (by kernel_rfl) rfl (want_on rfl (congrArg Value.bool c157)) ?_)
    obtain ⟨yq151x11_1, eq151x11_2, hs⟩ := o_bind hs
    refine w_call fnOk25 rfl rfl (disk_Same_c _ _ h.lt a va0 va1 (h.rdS 1 rfl) (h.rdS 2 rfl) d vd0 vd1 (h.srS 5 rfl) (h.srS 6 rfl) _ eq151x11_2) ?_
    rintro _ w ⟨kq151x11_3, rfl⟩
    refine ⟨_, rfl, ?_⟩
    replace h := h.grow kq151x11_3
    replace hg159 := hg159.trans kq151x11_3
    refine wl_nil (wh_back hg159 (wh_eff 14 (by kernel_rfl) rfl (want_on rfl (congrArg Value.bool c157)) ?_))
    obtain ⟨yq151x14_1, eq151x14_2, hs⟩ := o_bind hs
    refine w_call fnOk28 rfl rfl (wandererref_SameDisk_c _ _ h.lt a va0 va1 (h.rdS 1 rfl) (h.rdS 2 rfl) d vd0 vd1 (h.srS 5 rfl) (h.srS 6 rfl) _ eq151x14_2) ?_
    rintro _ w ⟨kq151x14_3, rfl⟩
    refine ⟨_, rfl, ?_⟩
    replace h := h.grow kq151x14_3
    replace hg159 := hg159.trans kq151x14_3
    refine wl_nil (wh_back hg159 (wh_ok 15 hg159 rfl (want_on rfl (congrArg Value.bool c157)) (by kernel_rfl) (by kernel_rfl) (by kernel_rfl) (fun w hk => r_neqb Tryd.underlying4 rfl rfl) (wh_ok 16 hg159 rfl want_none (by kernel_rfl) (by kernel_rfl) (by kernel_rfl) (fun w hk => r_pick (b := false) (v := (.bool ((yq151x11_1 != yq151x14_1)))) (congrArg Value.bool c157) rfl) (wh_done (by kernel_rfl) (then_loop ?_)))))
    exact jend (yq151x11_1 != yq151x14_1) ⟨h.cn _, hs⟩
def wandererlaw_at (a : Int) (b : Int) : Option Int :=
  grd (0 < b) (bif decide (((Int.tmod a b) : Int) < 0) then grd (I64 ((Int.tmod a b) + b)) (some ((Int.tmod a b) + b)) else some (Int.tmod a b))
theorem wandererlaw_at_c (w0 : World) (M : BS) (hM : ∀ b, M b → b < w0.heap.size) (a : Int) (b : Int) (r : Int) (hs : wandererlaw_at a b = some r) :
    Calls Tryd.prog 21 #[(.int .i64 (a)), (.int .i64 (b))] w0 (fun e w' => Grow w0 w' ∧ e = .returned (.int .i64 r)) := by
 refine calls_start (args := [(.int .i64 (a)), (.int .i64 (b))]) Tryd.func21 rfl Tryd.ntmps21 (Nat.le_of_ble_eq_true rfl) ?_
 have h := SH.init hM
 refine wc_seq (wc_region (wl_ok (r_assign (v := (.int .i64 (0))) rfl) (wl_nil (then_normal (wc_seq (wc_region (wl_ok (r_move (v := (.int .i64 (a))) rfl) (wl_ok (r_move (v := (.int .i64 (b))) rfl) ?_))))))))
 obtain ⟨a1, hs⟩ := o_grd hs
 refine wl_ok (r_rem rfl rfl a1) (wl_ok (r_assign (v := (.int .i64 ((Int.tmod a b)))) rfl) (wl_nil (then_normal (wc_seq (wc_seq (wc_region (wl_ok (r_move (v := (.int .i64 ((Int.tmod a b)))) rfl) (wl_ok (r_lss rfl rfl) (wl_nil (then_normal (wc_ifb hs rfl (fun c2 hs => ?_) (fun c2 hs => ?_))))))))))))
 ·
  refine wc_region (wl_ok (r_move (v := (.int .i64 ((Int.tmod a b)))) rfl) (wl_ok (r_move (v := (.int .i64 (b))) rfl) ?_))
  obtain ⟨a3, hs⟩ := o_grd hs
  refine wl_ok (r_add rfl rfl a3) (wl_ok (r_assign (v := (.int .i64 (((Int.tmod a b) + b)))) rfl) (wl_nil (then_normal (wc_seq (wc_region (wl_ok (r_move (v := (.int .i64 (((Int.tmod a b) + b)))) rfl) (wl_ok (r_assign (v := (.int .i64 (((Int.tmod a b) + b)))) rfl) (wl_nil (then_normal (wc_ret (fin1 (v := (.int .i64 (((Int.tmod a b) + b)))) Tryd.results21 rfl ?_)))))))))))
  obtain rfl := Option.some.inj hs
  exact ⟨h.grown, rfl⟩
 ·
  refine wc_skip (then_normal (wc_seq (wc_region (wl_ok (r_move (v := (.int .i64 ((Int.tmod a b)))) rfl) (wl_ok (r_assign (v := (.int .i64 ((Int.tmod a b)))) rfl) (wl_nil (then_normal (wc_ret (fin1 (v := (.int .i64 ((Int.tmod a b)))) Tryd.results21 rfl ?_)))))))))
  obtain rfl := Option.some.inj hs
  exact ⟨h.grown, rfl⟩
def wandererlaw_DiskKeeps_j18 (nx39 : (List Rec × List UInt8 × List UInt8) → Option Bool) (x43 : List Rec) (y45 : List UInt8) (y47 : List UInt8) : Option Bool :=
  nx39 (x43, y45, y47)
def wandererlaw_DiskKeeps_j36 (nx117 : (List Rec × List UInt8 × List UInt8) → Option Bool) (x121 : List Rec) (y123 : List UInt8) (y125 : List UInt8) : Option Bool :=
  nx117 (x121, y123, y125)
def wandererlaw_DiskKeeps_b58 (y173 : Disk × List Rec × Int) (y160 : Disk × List Rec × Int) (i191 : Int) (s : Unit) (nx194 : Unit → Option Bool) : Option Bool :=
  (idx y173.2.1 i191).bind fun x197 => (idx y160.2.1 i191).bind fun x210 => (record_Same x197 x210).bind fun y223 => bif (!y223) then some false else nx194 ()
def wandererlaw_DiskKeeps_k59 (y160 : Disk × List Rec × Int) (s : Unit) : Option Bool :=
  some (decide (((y160.1.wait.length : Int) : Int) = 0))
def wandererlaw_DiskKeeps_j51 (N : Nat) (y160 : Disk × List Rec × Int) (x171 : Bool) : Option Bool :=
  bif x171 then some false else (disk_Recover N y160.1).bind fun y173 => bif decide ((y173.2.2 : Int) = 0) then (disk_Same y173.1 y160.1).bind fun y185 => bif y185 then bif decide (((y173.2.1.length : Int) : Int) ≠ (y160.2.1.length : Int)) then some false else upto (wandererlaw_DiskKeeps_b58 y173 y160) (wandererlaw_DiskKeeps_k59 y160) 0 ((y173.2.1.length : Int)).toNat () else some false else some false
def wandererlaw_DiskKeeps_b62 (N : Nat) (y160 : Disk × List Rec × Int) (x237 : List Rec) (i244 : Int) (s : Unit) (nx247 : Unit → Option Bool) : Option Bool :=
  (idx y160.2.1 i244).bind fun x250 => (idx x237 i244).bind fun x263 => (record_Same x250 x263).bind fun y275 => bif (!y275) then wandererlaw_DiskKeeps_j51 N y160 true else nx247 ()
def wandererlaw_DiskKeeps_k63 (N : Nat) (y160 : Disk × List Rec × Int) (s : Unit) : Option Bool :=
  wandererlaw_DiskKeeps_j51 N y160 false
def wandererlaw_DiskKeeps_j37 (N : Nat) (x30 : List Rec) (x108 : List Rec) (x154 : Int) (y156 : List UInt8) (y158 : List UInt8) : Option Bool :=
  bif decide ((x154 : Int) ≠ 0) then some false else (disk_Recover N (⟨y156, y158⟩ : Disk)).bind fun y160 => bif (decide ((y160.2.2 : Int) ≠ 0) || decide (((y160.2.1.length : Int) : Int) < (x30.length : Int))) then wandererlaw_DiskKeeps_j51 N y160 true else grd (I64 ((x30.length : Int) + (x108.length : Int))) (bif decide ((((x30.length : Int) + (x108.length : Int)) : Int) < (y160.2.1.length : Int)) then wandererlaw_DiskKeeps_j51 N y160 true else (slices_Concat_Rec [x30, x108]).bind fun y231 => (sub? y231 0 (y160.2.1.length : Int)).bind fun x237 => bif decide (((y160.2.1.length : Int) : Int) ≠ (x237.length : Int)) then wandererlaw_DiskKeeps_j51 N y160 true else upto (wandererlaw_DiskKeeps_b62 N y160 x237) (wandererlaw_DiskKeeps_k63 N y160) 0 ((y160.2.1.length : Int)).toNat ())
def wandererlaw_DiskKeeps_b64 (N : Nat) (x115 : Rec) (s : List Rec × List UInt8 × List UInt8) (nx117 : List Rec × List UInt8 × List UInt8 → Option Bool) : Option Bool :=
  match s with | (x108, y110, y112) => (disk_Put N (⟨y110, y112⟩ : Disk) x115).bind fun y136 => bif decide ((y136.2 : Int) = 0) then grd (Room 80 x108 [x115]) (wandererlaw_DiskKeeps_j36 nx117 (x108 ++ [x115]) y136.1.safe y136.1.wait) else wandererlaw_DiskKeeps_j36 nx117 x108 y110 y112
def wandererlaw_DiskKeeps_k65 (N : Nat) (c : Int) (x30 : List Rec) (s : List Rec × List UInt8 × List UInt8) : Option Bool :=
  match s with | (x108, y110, y112) => grd (I64 ((y112.length : Int) + 1)) ((wandererlaw_at c ((y112.length : Int) + 1)).bind fun yq284x6_1 => (disk_Crash N (⟨y110, y112⟩ : Disk) yq284x6_1).bind fun yq284x7_1 => wandererlaw_DiskKeeps_j37 N x30 x108 yq284x7_1.2 yq284x7_1.1.safe yq284x7_1.1.wait)
def wandererlaw_DiskKeeps_b66 (N : Nat) (x37 : Rec) (s : List Rec × List UInt8 × List UInt8) (nx39 : List Rec × List UInt8 × List UInt8 → Option Bool) : Option Bool :=
  match s with | (x30, y32, y34) => (disk_Put N (⟨y32, y34⟩ : Disk) x37).bind fun y58 => bif decide ((y58.2 : Int) = 0) then grd (Room 80 x30 [x37]) (wandererlaw_DiskKeeps_j18 nx39 (x30 ++ [x37]) y58.1.safe y58.1.wait) else wandererlaw_DiskKeeps_j18 nx39 x30 y32 y34
def wandererlaw_DiskKeeps_k67 (N : Nat) (b : List Rec) (c : Int) (s : List Rec × List UInt8 × List UInt8) : Option Bool :=
  match s with | (x30, y32, y34) => (disk_Sync N (⟨y32, y34⟩ : Disk)).bind fun y76 => bif decide ((y76.2 : Int) ≠ 0) then some false else (sub? b 0 (min (b.length : Int) 5)).bind fun x84 => each (wandererlaw_DiskKeeps_b64 N) (wandererlaw_DiskKeeps_k65 N c x30) x84 ([], y76.1.safe, y76.1.wait)
def wandererlaw_DiskKeeps (N : Nat) (a : List Rec) (b : List Rec) (c : Int) : Option Bool :=
  (wandererlaw_filed N).bind fun y1 => bif (!y1) then some false else (sub? a 0 (min (a.length : Int) 5)).bind fun x6 => each (wandererlaw_DiskKeeps_b66 N) (wandererlaw_DiskKeeps_k67 N b c) x6 ([], [], [])
end Go.Proofs.YthlibjllfckhjaaDoor
