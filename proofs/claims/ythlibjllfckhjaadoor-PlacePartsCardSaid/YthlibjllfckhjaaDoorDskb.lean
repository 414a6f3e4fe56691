/-
  Functions of the program, each as plain Lean, and that the code does just that.
-/
import Derived.Test.YthlibjllfckhjaaDoorProg
import Derived.Test.YthlibjllfckhjaaDoorLiftC
import Derived.Test.YthlibjllfckhjaaDoorRec
import Derived.Test.YthlibjllfckhjaaDoorDskShelf
import Derived.Test.YthlibjllfckhjaaDoorDsk
set_option linter.unusedSimpArgs false
set_option linter.unusedVariables false
set_option maxRecDepth 10000
namespace Go.Proofs.YthlibjllfckhjaaDoor
open Go Go.Proofs Go.LX
theorem wandererlaw_DiskKeeps_c (N : Nat) (w0 : World) (M : BS) (hM : ∀ b, M b → b < w0.heap.size) (hT : Tabs Tryd.prog 3 w0) (va : Value) (a : List Rec) (ha : Rd2 rRec w0 BE M va a) (vb : Value) (b : List Rec) (hb : Rd2 rRec w0 BE M vb b) (c : Int) (r : Bool) (hs : wandererlaw_DiskKeeps N a b c = some r) :
    Calls Tryd.prog 5 #[va, vb, (.int .i64 (c))] w0 (fun e w' => Grow w0 w' ∧ e = .returned (.bool r)) := by
 refine calls_start (args := [va, vb, (.int .i64 (c))]) Tryd.func5 rfl Tryd.ntmps5 (Nat.le_of_ble_eq_true rfl) ?_
 have h := SH.init hM
 replace h := h.argSr 1 ha none_own
 replace h := h.argSr 2 hb (hupd_own_sr none_own)
 have hl_a := ha.len_le
 have hl_b := hb.len_le
 refine wc_seq (wc_region (wl_ok (r_assign (v := (.bool (false))) rfl) (wl_nil (then_normal (wc_seq (wc_seq (wc_region ?_)))))))
 obtain ⟨y1, e2, hs⟩ := o_bind hs
 refine w_call fnOk16 rfl rfl (wandererlaw_filed_c N _ _ h.lt (hT.go h.keep)  _ e2) ?_
 rintro _ w ⟨k3, rfl⟩
 refine ⟨_, rfl, ?_⟩
 replace h := h.grow k3
 refine wl_ok (r_notb rfl) (wl_nil (then_normal (wc_ifb hs rfl (fun c4 hs => ?_) (fun c4 hs => ?_))))
 ·
  refine wc_seq (wc_region (wl_ok (r_assign (v := (.bool (false))) rfl) (wl_nil (then_normal (wc_ret (then_ret (fin1 (v := (.bool (false))) Tryd.results5 rfl ?_)))))))
  obtain rfl := Option.some.inj hs
  exact ⟨h.grown, rfl⟩
 ·
  refine wc_skip (then_normal (wc_seq (wc_region (w_allocN h 3 Many37 fun w b5 h => wl_nil (then_normal (wc_seq (wc_region (wl_ok (r_makeFunc (c1 := []) (c2 := [(.pointer (some ⟨b5, 0, none⟩))]) rfl rfl) (wl_ok (r_assign (v := (.func (.func 17) #[] #[(.pointer (some ⟨b5, 0, none⟩))])) rfl) (wl_nil (then_normal (wc_seq (wc_region (wl_ok (r_move (v := (.func (.func 17) #[] #[(.pointer (some ⟨b5, 0, none⟩))])) rfl) (wl_ok (r_move (v := va) rfl) (w_callIn (args := [va, (.pointer (some ⟨b5, 0, none⟩))]) fnOk17 rfl rfl (calls_start (args := [va, (.pointer (some ⟨b5, 0, none⟩))]) Tryd.func17 rfl Tryd.ntmps17 (Nat.le_of_ble_eq_true rfl) (wc_seq (wc_region (wl_ok (r_assign (v := (.slice none 0 0)) rfl) (wl_nil (then_normal ?_))))))))))))))))))))))
  refine wc_seq (wc_region (wl_ok (r_assign (v := (.slice none 0 0)) rfl) (wl_nil (then_normal (wc_seq (wc_seq (wc_region (wl_ok (r_move (v := va) rfl) (wl_ok (r_move (v := va) rfl) (wl_ok (r_len SliceOf34 rfl (h.srS 1 rfl)) (wl_ok (r_min rfl rfl) ?_)))))))))))
  obtain ⟨x6, e7, hs⟩ := o_bind hs
  obtain ⟨e10, e10a, e10b, e10c⟩ := o_sub e7
  obtain ⟨u8, h, i9⟩ := h.slS 1 4 rfl SliceOf34 rfl e10a e10b e10c
  rw [← e10] at h
  refine wl_ok (i9 _ _ _ _ _ _ _ _ _ _ rfl (.inl ⟨rfl, rfl⟩) (.inr (congrArg some rfl))) (wl_ok (r_len SliceOf34 rfl (h.srS 4 rfl)) (wl_ok (r_move (v := (.int .i64 (0))) rfl) (wl_nil (then_normal (wc_block ?_)))))
  replace h := h.nilO (R := rRec) (E := 24) 14
  replace h := h.knowRd 15 (Rd2.nil (R := rByte))
  replace h := h.knowRd 16 (Rd2.nil (R := rByte))
  refine wc_lp (σ := Nat × Int × Value × List Rec × Value × List UInt8 × Value × List UInt8) (inl [4, 6, 7, 8, 15, 16, 17, 18, 19, 20, 21, 22, 23, 24, 25, 26, 27, 28, 29, 30, 31, 32]) (fun ⟨k35, i36, v29, x30, v31, y32, v33, y34⟩ => [(4, v29), (15, (.int .i64 (i36)))]) (fun ⟨k35, i36, v29, x30, v31, y32, v33, y34⟩ w => SH w0 M BE w (hset [(1, .sr rRec va a), (2, .sr rRec vb b), (3, .blk b5 [v31, v33]), (4, .sr rRec u8 x6), (14, .own rRec 24 v29 x30), (15, .rd rByte v31 y32), (16, .rd rByte v33 y34)]) ∧ i36 = (k35 : Int) ∧ each (wandererlaw_DiskKeeps_b66 N) (wandererlaw_DiskKeeps_k67 N b c) (x6.drop k35) (x30, y32, y34) = some r) (fun ⟨k35, i36, v29, x30, v31, y32, v33, y34⟩ => x6.length - k35) ⟨0, 0, (.slice none 0 0), [], (.slice none 0 0), [], (.slice none 0 0), []⟩ ⟨rfl, rfl, trivial⟩ ?_ ?_
  ·
   exact ⟨h.cn _, rfl, hs⟩
  ·
   rintro ⟨k35, i36, v29, x30, v31, y32, v33, y34⟩ w junk ⟨h, hik, hs⟩
   refine wc_seq (wc_region ?_)
   refine wl_ok (r_lss rfl rfl) (wl_nil (then_normal ?_))
   refine wc_seq (wc_if rfl (fun e40 => ?_) (fun e40 => ?_))
   ·
    refine wc_skip (then_normal ?_)
    obtain ⟨x37, e41a, e41b⟩ := drop_lt (hik ▸ e40)
    rw [e41b, each_cons] at hs
    generalize hnx39 : each (wandererlaw_DiskKeeps_b66 N) (wandererlaw_DiskKeeps_k67 N b c) (x6.drop (k35 + 1)) = nx39 at hs
    have e41r := nat_rng ((h.srS 4 rfl)).len_le hik e40
    refine wc_join (σ := Value × List Rec × Value × List UInt8 × Value × List UInt8) (inl [4, 6, 7, 8, 17, 18, 19, 20, 21, 22, 23, 24, 25, 26, 27, 28, 29, 30, 31]) (fun ⟨v42, x43, v44, y45, v46, y47⟩ => [(4, v42)]) (fun ⟨v42, x43, v44, y45, v46, y47⟩ w => SH w0 M BE w (hset [(1, .sr rRec va a), (2, .sr rRec vb b), (3, .blk b5 [v44, v46]), (4, .sr rRec u8 x6), (14, .own rRec 24 v42 x43), (17, .rd rByte v44 y45), (18, .rd rByte v46 y47)]) ∧ wandererlaw_DiskKeeps_j18 nx39 x43 y45 y47 = some r) ?_ ?_
    ·
     rintro ⟨v42, x43, v44, y45, v46, y47⟩ w junk ⟨h, hs⟩
     refine wc_region (wl_ok (r_add rfl rfl e41r) (wl_ok (r_move (v := (.int .i64 ((i36 + 1)))) rfl) (wl_nil (then_loop ?_))))
     replace h := h.copyR 17 15 rfl
     replace h := h.copyR 18 16 rfl
     subst hnx39
     exact lend ⟨k35 + 1, i36 + 1, v42, x43, v44, y45, v46, y47⟩ ⟨h.cn _, by omega, hs⟩ (by have := of_decide_eq_true e40; dsimp only; omega)
    ·
     refine wc_block (wc_seq (wc_region ?_))
     obtain ⟨b49, o50, cs51, h, r52, i48⟩ := h.ixS 4 19 rfl SliceOf34 rfl (nat_nn hik) (get_nat hik e41a)
     obtain ⟨u53, u55, rfl, g54, g56⟩ := rRec_open r52
     replace h := h.knowRd 20 g54.up
     replace h := h.knowRd 21 g56.up.up
     refine wl_ok (i48 _ _ _ _ _ _ _ _ _ rfl rfl) (wl_ok (r_ldPN (k := 0) (vs := [(.int .i64 (x37.kind)), (.int .i64 (x37.co)), (.int .i64 (x37.epoch)), (.int .i64 (x37.place)), u53, u55]) h 19 rfl Many24 rfl rfl rfl (Nat.le_of_ble_eq_true rfl)) (w_allocN h 22 Many24 fun w b57 h => w_stN (vs := [(.int .i64 (x37.kind)), (.int .i64 (x37.co)), (.int .i64 (x37.epoch)), (.int .i64 (x37.place)), u53, u55]) h 22 [(.int .i64 (x37.kind)), (.int .i64 (x37.co)), (.int .i64 (x37.epoch)), (.int .i64 (x37.place)), u53, u55] rfl Many24 rfl rfl rfl rfl rfl (ones_cons rfl (ones_cons rfl (ones_cons rfl (ones_cons rfl (ones_cons (h.rdAt 20 rfl).one (ones_cons (h.rdAt 21 rfl).one ones_nil)))))) fun w h => wl_nil (then_normal (wc_seq (wc_region (wl_ok (r_ldBN (vs := [v31, v33]) h 3 rfl Many37 rfl rfl rfl) (wl_ok (r_ldBN (vs := [(.int .i64 (x37.kind)), (.int .i64 (x37.co)), (.int .i64 (x37.epoch)), (.int .i64 (x37.place)), u53, u55]) h 22 rfl Many24 rfl rfl rfl) ?_)))))))
     obtain ⟨y58, e59, hs⟩ := o_bind hs
     refine w_call fnOk18 rfl rfl (disk_Put_c N _ _ h.lt (hT.go h.keep) (⟨y32, y34⟩ : Disk) v31 v33 (h.rdS 15 rfl) (h.rdS 16 rfl) x37 u53 u55 (h.rdAt 20 rfl) (h.rdAt 21 rfl) _ e59) ?_
     rintro _ w ⟨k64, u60, u62, rfl, g61, g63⟩
     refine ⟨_, rfl, ?_⟩
     replace h := h.gotRd 23 k64 g61
     replace h := h.knowRd 24 g63.up
     refine wl_ok (r_move (v := (.tuple #[(.agg #[u60, u62]), (.int .i64 (y58.2))])) rfl) (wl_ok (r_extract rfl rfl) (wl_ok (r_extract rfl rfl) (w_allocN h 25 Many37 fun w b65 h => w_stN (vs := [u60, u62]) h 25 [u60, u62] rfl Many37 rfl rfl rfl rfl rfl (ones_cons (h.rdAt 23 rfl).one (ones_cons (h.rdAt 24 rfl).one ones_nil)) fun w h => wl_ok (r_assign (v := (.int .i64 (y58.2))) rfl) (wl_nil (then_normal (wc_seq (wc_region (wl_ok (r_move (v := (.int .i64 (y58.2))) rfl) (wl_ok (r_eql rfl rfl) (wl_nil (then_normal (wc_ifb hs rfl (fun c66 hs => ?_) (fun c66 hs => ?_)))))))))))))
     ·
      refine wck_held (L := (fun b => ob v29 b ∨ b = b5)) mixed h fun w h => whk_ok 0 (Keep.refl _ _) rfl want_none (by kernel_rfl) (by kernel_rfl) (by kernel_rfl) (fun w hk => have h := h.loseC2 14 3 (by decide) rfl rfl hk; r_ldBN (vs := [u60, u62]) h 25 rfl Many37 rfl rfl rfl) (whk_ok 1 (Keep.refl _ _) rfl want_none (by kernel_rfl) (by kernel_rfl) (by kernel_rfl) (fun w hk => r_move (v := v29) rfl) (whk_ok 2 (Keep.refl _ _) rfl want_none (by kernel_rfl) (by kernel_rfl) (by kernel_rfl) (fun w hk => have h := h.loseC2 14 3 (by decide) rfl rfl hk; r_ldBN (vs := [(.int .i64 (x37.kind)), (.int .i64 (x37.co)), (.int .i64 (x37.epoch)), (.int .i64 (x37.place)), u53, u55]) h 22 rfl Many24 rfl rfl rfl) ?_))
      obtain ⟨ws74, ws74e⟩ : ∃ x, x = w := ⟨_, rfl⟩
      have hg75 : Keep (fun b => ob v29 b ∨ b = b5) ws74 w := ws74e ▸ Keep.refl (fun b => ob v29 b ∨ b = b5) w
      refine whk_at ws74e.symm (whk_eff 3 (by kernel_rfl) rfl want_none (w_bsG (R := rRec) (vs := [(.agg #[(.int .i64 (x37.kind)), (.int .i64 (x37.co)), (.int .i64 (x37.epoch)), (.int .i64 (x37.place)), u53, u55])]) (xs := [x37]) h 62 ElemOf34 rfl rfl rfl ⟨⟨_, _, rfl, (h.rdAt 20 rfl), (h.rdAt 21 rfl)⟩, trivial⟩ rfl fun w uq73x3_1 h uq73x3_1k uq73x3_1f => ?_))
      have uq73x3_1q : ∀ b, ob uq73x3_1 b → ws74.heap.size ≤ b := fun b hb => Nat.le_trans hg75.size (uq73x3_1f b hb)
      replace hg75 := hg75.grow uq73x3_1k
      refine wl_nil (whk_back hg75 (whk_eff 4 (by kernel_rfl) rfl want_none ?_))
      obtain ⟨aq73x4_1, hs⟩ := o_grd hs
      have uq73x4_2z := hg75.size
      refine w_appGN (R := rRec) (m := [x37]) h 14 rfl (h.ownS 62 rfl) ElemOf34 rfl rfl rfl aq73x4_1.1 aq73x4_1.2 fun w uq73x4_2 h uq73x4_2k uq73x4_2n => ?_
      replace hg75 := Keep.step hg75 uq73x4_2k (fun _ hx _ => .inl hx)
      refine wl_nil (whk_back hg75 (whk_eff 5 (by kernel_rfl) rfl want_none (w_stNG (vs := [u60, u62]) h 3 [u60, u62] rfl Many37 rfl rfl rfl rfl rfl (ones_cons (h.rdAt 23 rfl).one (ones_cons (h.rdAt 24 rfl).one ones_nil)) fun w h kq73x5_1 => ?_)))
      replace hg75 := Keep.step hg75 kq73x5_1 (fun _ hx _ => .inr hx)
      refine wl_nil (whk_back hg75 (whk_ok 6 hg75 rfl want_none (by kernel_rfl) (by kernel_rfl) (by kernel_rfl) (fun w hk => r_assign (v := uq73x4_2) rfl) (whk_done (by kernel_rfl) (inBlock_normal (then_loop ?_)))))
      replace h := h.copyR 23 17 rfl
      replace h := h.copyR 24 18 rfl
      exact jend (uq73x4_2, (x30 ++ [x37]), u60, y58.1.safe, u62, y58.1.wait) ⟨h.cn _, hs⟩
     ·
      refine wc_skip (inBlock_normal (then_loop ?_))
      replace h := h.copyR 15 17 rfl
      replace h := h.copyR 16 18 rfl
      exact jend (v29, x30, v31, y32, v33, y34) ⟨h.cn _, hs⟩
   ·
    rw [drop_ge (hik ▸ e40), each_nil] at hs
    refine wc_exit (then_exit (then_exit (inBlock_eq (then_normal (wc_seq (wc_region (wl_ok (r_move (v := v29) rfl) (wl_ok (r_assign (v := v29) rfl) (wl_nil (then_normal (wc_ret (fin1 (v := v29) Tryd.results17 rfl (⟨_, rfl, ?_⟩)))))))))))))
    refine wl_ok (r_assign (v := v29) rfl) (wl_nil (then_normal (wc_seq (wc_region (wl_ok (r_ldBN (vs := [v31, v33]) h 3 rfl Many37 rfl rfl rfl) ?_)))))
    obtain ⟨y76, e77, hs⟩ := o_bind hs
    refine w_call fnOk19 rfl rfl (disk_Sync_c N _ _ h.lt (hT.go h.keep) (⟨y32, y34⟩ : Disk) v31 v33 (h.rdAt 15 rfl) (h.rdAt 16 rfl) _ e77) ?_
    rintro _ w ⟨k82, u78, u80, rfl, g79, g81⟩
    refine ⟨_, rfl, ?_⟩
    replace h := h.gotRd 122 k82 g79
    replace h := h.knowRd 123 g81.up
    refine wl_ok (r_move (v := (.tuple #[(.agg #[u78, u80]), (.int .i64 (y76.2))])) rfl) (wl_ok (r_extract rfl rfl) (wl_ok (r_extract rfl rfl) (w_stN (vs := [u78, u80]) h 3 [u78, u80] rfl Many37 rfl rfl rfl rfl rfl (ones_cons (h.rdAt 122 rfl).one (ones_cons (h.rdAt 123 rfl).one ones_nil)) fun w h => wl_ok (r_assign (v := (.int .i64 (y76.2))) rfl) (wl_nil (then_normal (wc_seq (wc_seq (wc_region (wl_ok (r_move (v := (.int .i64 (y76.2))) rfl) (wl_ok (r_neq rfl rfl) (wl_nil (then_normal (wc_ifb hs rfl (fun c83 hs => ?_) (fun c83 hs => ?_))))))))))))))
    ·
     refine wc_seq (wc_region (wl_ok (r_assign (v := (.bool (false))) rfl) (wl_nil (then_normal (wc_ret (then_ret (fin1 (v := (.bool (false))) Tryd.results5 rfl ?_)))))))
     obtain rfl := Option.some.inj hs
     exact ⟨h.grown, rfl⟩
    ·
     refine wc_skip (then_normal (wc_seq (wc_region (wl_ok (r_move (v := (.func (.func 17) #[] #[(.pointer (some ⟨b5, 0, none⟩))])) rfl) (wl_ok (r_move (v := vb) rfl) (w_callIn (args := [vb, (.pointer (some ⟨b5, 0, none⟩))]) fnOk17 rfl rfl (calls_start (args := [vb, (.pointer (some ⟨b5, 0, none⟩))]) Tryd.func17 rfl Tryd.ntmps17 (Nat.le_of_ble_eq_true rfl) (wc_seq (wc_region (wl_ok (r_assign (v := (.slice none 0 0)) rfl) (wl_nil (then_normal (wc_seq (wc_region (wl_ok (r_assign (v := (.slice none 0 0)) rfl) (wl_nil (then_normal (wc_seq (wc_seq (wc_region (wl_ok (r_move (v := vb) rfl) (wl_ok (r_move (v := vb) rfl) (wl_ok (r_len SliceOf34 rfl (h.srS 2 rfl)) ?_)))))))))))))))))))))))
     refine wl_ok (r_min rfl rfl) ?_
     obtain ⟨x84, e85, hs⟩ := o_bind hs
     obtain ⟨e88, e88a, e88b, e88c⟩ := o_sub e85
     obtain ⟨u86, h, i87⟩ := h.slS 2 124 rfl SliceOf34 rfl e88a e88b e88c
     rw [← e88] at h
     refine wl_ok (i87 _ _ _ _ _ _ _ _ _ _ rfl (.inl ⟨rfl, rfl⟩) (.inr (congrArg some rfl))) (wl_ok (r_len SliceOf34 rfl (h.srS 124 rfl)) (wl_ok (r_move (v := (.int .i64 (0))) rfl) (wl_nil (then_normal (wc_block ?_)))))
     replace h := h.nilO (R := rRec) (E := 24) 134
     replace h := h.copyR 122 135 rfl
     replace h := h.copyR 123 136 rfl
     refine wc_lp (σ := Nat × Int × Value × List Rec × Value × List UInt8 × Value × List UInt8) (inl [4, 6, 7, 8, 15, 16, 17, 18, 19, 20, 21, 22, 23, 24, 25, 26, 27, 28, 29, 30, 31, 32]) (fun ⟨k113, i114, v107, x108, v109, y110, v111, y112⟩ => [(4, v107), (15, (.int .i64 (i114)))]) (fun ⟨k113, i114, v107, x108, v109, y110, v111, y112⟩ w => SH w0 M BE w (hset [(1, .sr rRec va a), (2, .sr rRec vb b), (3, .blk b5 [v109, v111]), (14, .own rRec 24 v29 x30), (15, .rd rByte v31 y32), (16, .rd rByte v33 y34), (122, .rd rByte u78 y76.1.safe), (123, .rd rByte u80 y76.1.wait), (124, .sr rRec u86 x84), (134, .own rRec 24 v107 x108), (135, .rd rByte v109 y110), (136, .rd rByte v111 y112)]) ∧ i114 = (k113 : Int) ∧ each (wandererlaw_DiskKeeps_b64 N) (wandererlaw_DiskKeeps_k65 N c x30) (x84.drop k113) (x108, y110, y112) = some r) (fun ⟨k113, i114, v107, x108, v109, y110, v111, y112⟩ => x84.length - k113) ⟨0, 0, (.slice none 0 0), [], u78, y76.1.safe, u80, y76.1.wait⟩ ⟨rfl, rfl, trivial⟩ ?_ ?_
     ·
      exact ⟨h.cn _, rfl, hs⟩
     ·
      rintro ⟨k113, i114, v107, x108, v109, y110, v111, y112⟩ w junk ⟨h, hik, hs⟩
      refine wc_seq (wc_region ?_)
      refine wl_ok (r_lss rfl rfl) (wl_nil (then_normal ?_))
      refine wc_seq (wc_if rfl (fun e118 => ?_) (fun e118 => ?_))
      ·
       refine wc_skip (then_normal ?_)
       obtain ⟨x115, e119a, e119b⟩ := drop_lt (hik ▸ e118)
       rw [e119b, each_cons] at hs
       generalize hnx117 : each (wandererlaw_DiskKeeps_b64 N) (wandererlaw_DiskKeeps_k65 N c x30) (x84.drop (k113 + 1)) = nx117 at hs
       have e119r := nat_rng ((h.srS 124 rfl)).len_le hik e118
       refine wc_join (σ := Value × List Rec × Value × List UInt8 × Value × List UInt8) (inl [4, 6, 7, 8, 17, 18, 19, 20, 21, 22, 23, 24, 25, 26, 27, 28, 29, 30, 31]) (fun ⟨v120, x121, v122, y123, v124, y125⟩ => [(4, v120)]) (fun ⟨v120, x121, v122, y123, v124, y125⟩ w => SH w0 M BE w (hset [(1, .sr rRec va a), (2, .sr rRec vb b), (3, .blk b5 [v122, v124]), (14, .own rRec 24 v29 x30), (15, .rd rByte v31 y32), (16, .rd rByte v33 y34), (122, .rd rByte u78 y76.1.safe), (123, .rd rByte u80 y76.1.wait), (124, .sr rRec u86 x84), (134, .own rRec 24 v120 x121), (137, .rd rByte v122 y123), (138, .rd rByte v124 y125)]) ∧ wandererlaw_DiskKeeps_j36 nx117 x121 y123 y125 = some r) ?_ ?_
       ·
        rintro ⟨v120, x121, v122, y123, v124, y125⟩ w junk ⟨h, hs⟩
        refine wc_region (wl_ok (r_add rfl rfl e119r) (wl_ok (r_move (v := (.int .i64 ((i114 + 1)))) rfl) (wl_nil (then_loop ?_))))
        replace h := h.copyR 137 135 rfl
        replace h := h.copyR 138 136 rfl
        subst hnx117
        exact lend ⟨k113 + 1, i114 + 1, v120, x121, v122, y123, v124, y125⟩ ⟨h.cn _, by omega, hs⟩ (by have := of_decide_eq_true e118; dsimp only; omega)
       ·
        refine wc_block (wc_seq (wc_region ?_))
        obtain ⟨b127, o128, cs129, h, r130, i126⟩ := h.ixS 124 139 rfl SliceOf34 rfl (nat_nn hik) (get_nat hik e119a)
        obtain ⟨u131, u133, rfl, g132, g134⟩ := rRec_open r130
        replace h := h.knowRd 140 g132.up
        replace h := h.knowRd 141 g134.up.up
        refine wl_ok (i126 _ _ _ _ _ _ _ _ _ rfl rfl) (wl_ok (r_ldPN (k := 0) (vs := [(.int .i64 (x115.kind)), (.int .i64 (x115.co)), (.int .i64 (x115.epoch)), (.int .i64 (x115.place)), u131, u133]) h 139 rfl Many24 rfl rfl rfl (Nat.le_of_ble_eq_true rfl)) (w_allocN h 142 Many24 fun w b135 h => w_stN (vs := [(.int .i64 (x115.kind)), (.int .i64 (x115.co)), (.int .i64 (x115.epoch)), (.int .i64 (x115.place)), u131, u133]) h 142 [(.int .i64 (x115.kind)), (.int .i64 (x115.co)), (.int .i64 (x115.epoch)), (.int .i64 (x115.place)), u131, u133] rfl Many24 rfl rfl rfl rfl rfl (ones_cons rfl (ones_cons rfl (ones_cons rfl (ones_cons rfl (ones_cons (h.rdAt 140 rfl).one (ones_cons (h.rdAt 141 rfl).one ones_nil)))))) fun w h => wl_nil (then_normal (wc_seq (wc_region (wl_ok (r_ldBN (vs := [v109, v111]) h 3 rfl Many37 rfl rfl rfl) (wl_ok (r_ldBN (vs := [(.int .i64 (x115.kind)), (.int .i64 (x115.co)), (.int .i64 (x115.epoch)), (.int .i64 (x115.place)), u131, u133]) h 142 rfl Many24 rfl rfl rfl) ?_)))))))
        obtain ⟨y136, e137, hs⟩ := o_bind hs
        refine w_call fnOk18 rfl rfl (disk_Put_c N _ _ h.lt (hT.go h.keep) (⟨y110, y112⟩ : Disk) v109 v111 (h.rdS 135 rfl) (h.rdS 136 rfl) x115 u131 u133 (h.rdAt 140 rfl) (h.rdAt 141 rfl) _ e137) ?_
        rintro _ w ⟨k142, u138, u140, rfl, g139, g141⟩
        refine ⟨_, rfl, ?_⟩
        replace h := h.gotRd 143 k142 g139
        replace h := h.knowRd 144 g141.up
        refine wl_ok (r_move (v := (.tuple #[(.agg #[u138, u140]), (.int .i64 (y136.2))])) rfl) (wl_ok (r_extract rfl rfl) (wl_ok (r_extract rfl rfl) (w_allocN h 145 Many37 fun w b143 h => w_stN (vs := [u138, u140]) h 145 [u138, u140] rfl Many37 rfl rfl rfl rfl rfl (ones_cons (h.rdAt 143 rfl).one (ones_cons (h.rdAt 144 rfl).one ones_nil)) fun w h => wl_ok (r_assign (v := (.int .i64 (y136.2))) rfl) (wl_nil (then_normal (wc_seq (wc_region (wl_ok (r_move (v := (.int .i64 (y136.2))) rfl) (wl_ok (r_eql rfl rfl) (wl_nil (then_normal (wc_ifb hs rfl (fun c144 hs => ?_) (fun c144 hs => ?_)))))))))))))
        ·
         refine wck_held (L := (fun b => ob v107 b ∨ b = b5)) mixed h fun w h => whk_ok 0 (Keep.refl _ _) rfl want_none (by kernel_rfl) (by kernel_rfl) (by kernel_rfl) (fun w hk => have h := h.loseC2 134 3 (by decide) rfl rfl hk; r_ldBN (vs := [u138, u140]) h 145 rfl Many37 rfl rfl rfl) (whk_ok 1 (Keep.refl _ _) rfl want_none (by kernel_rfl) (by kernel_rfl) (by kernel_rfl) (fun w hk => r_move (v := v107) rfl) (whk_ok 2 (Keep.refl _ _) rfl want_none (by kernel_rfl) (by kernel_rfl) (by kernel_rfl) (fun w hk => have h := h.loseC2 134 3 (by decide) rfl rfl hk; r_ldBN (vs := [(.int .i64 (x115.kind)), (.int .i64 (x115.co)), (.int .i64 (x115.epoch)), (.int .i64 (x115.place)), u131, u133]) h 142 rfl Many24 rfl rfl rfl) ?_))
         obtain ⟨ws152, ws152e⟩ : ∃ x, x = w := ⟨_, rfl⟩
         have hg153 : Keep (fun b => ob v107 b ∨ b = b5) ws152 w := ws152e ▸ Keep.refl (fun b => ob v107 b ∨ b = b5) w
         refine whk_at ws152e.symm (whk_eff 3 (by kernel_rfl) rfl want_none (w_bsG (R := rRec) (vs := [(.agg #[(.int .i64 (x115.kind)), (.int .i64 (x115.co)), (.int .i64 (x115.epoch)), (.int .i64 (x115.place)), u131, u133])]) (xs := [x115]) h 182 ElemOf34 rfl rfl rfl ⟨⟨_, _, rfl, (h.rdAt 140 rfl), (h.rdAt 141 rfl)⟩, trivial⟩ rfl fun w uq151x3_1 h uq151x3_1k uq151x3_1f => ?_))
         have uq151x3_1q : ∀ b, ob uq151x3_1 b → ws152.heap.size ≤ b := fun b hb => Nat.le_trans hg153.size (uq151x3_1f b hb)
         replace hg153 := hg153.grow uq151x3_1k
         refine wl_nil (whk_back hg153 (whk_eff 4 (by kernel_rfl) rfl want_none ?_))
         obtain ⟨aq151x4_1, hs⟩ := o_grd hs
         have uq151x4_2z := hg153.size
         refine w_appGN (R := rRec) (m := [x115]) h 134 rfl (h.ownS 182 rfl) ElemOf34 rfl rfl rfl aq151x4_1.1 aq151x4_1.2 fun w uq151x4_2 h uq151x4_2k uq151x4_2n => ?_
         replace hg153 := Keep.step hg153 uq151x4_2k (fun _ hx _ => .inl hx)
         refine wl_nil (whk_back hg153 (whk_eff 5 (by kernel_rfl) rfl want_none (w_stNG (vs := [u138, u140]) h 3 [u138, u140] rfl Many37 rfl rfl rfl rfl rfl (ones_cons (h.rdAt 143 rfl).one (ones_cons (h.rdAt 144 rfl).one ones_nil)) fun w h kq151x5_1 => ?_)))
         replace hg153 := Keep.step hg153 kq151x5_1 (fun _ hx _ => .inr hx)
         refine wl_nil (whk_back hg153 (whk_ok 6 hg153 rfl want_none (by kernel_rfl) (by kernel_rfl) (by kernel_rfl) (fun w hk => r_assign (v := uq151x4_2) rfl) (whk_done (by kernel_rfl) (inBlock_normal (then_loop ?_)))))
         replace h := h.copyR 143 137 rfl
         replace h := h.copyR 144 138 rfl
         exact jend (uq151x4_2, (x108 ++ [x115]), u138, y136.1.safe, u140, y136.1.wait) ⟨h.cn _, hs⟩
        ·
         refine wc_skip (inBlock_normal (then_loop ?_))
         replace h := h.copyR 135 137 rfl
         replace h := h.copyR 136 138 rfl
         exact jend (v107, x108, v109, y110, v111, y112) ⟨h.cn _, hs⟩
      ·
       rw [drop_ge (hik ▸ e118), each_nil] at hs
       refine wc_exit (then_exit (then_exit (inBlock_eq (then_normal (wc_seq (wc_region (wl_ok (r_move (v := v107) rfl) (wl_ok (r_assign (v := v107) rfl) (wl_nil (then_normal (wc_ret (fin1 (v := v107) Tryd.results17 rfl (⟨_, rfl, ?_⟩)))))))))))))
       refine wl_ok (r_assign (v := v107) rfl) (wl_nil (then_normal (wc_join (σ := Int × Value × List UInt8 × Value × List UInt8) (inl [10, 32, 33, 34, 35, 36, 37, 38, 39, 40, 41, 42]) (fun ⟨x154, v155, y156, v157, y158⟩ => [(10, (.int .i64 (x154)))]) (fun ⟨x154, v155, y156, v157, y158⟩ w => SH w0 M BE w (hset [(3, .blk b5 [v155, v157]), (14, .own rRec 24 v29 x30), (134, .own rRec 24 v107 x108), (326, .rd rByte v155 y156), (327, .rd rByte v157 y158)]) ∧ wandererlaw_DiskKeeps_j37 N x30 x108 x154 y156 y158 = some r) ?_ ?_)))
       ·
        rintro ⟨x154, v155, y156, v157, y158⟩ w junk ⟨h, hs⟩
        refine wc_seq (wc_seq (wc_region (wl_ok (r_move (v := (.int .i64 (x154))) rfl) (wl_ok (r_neq rfl rfl) (wl_nil (then_normal (wc_ifb hs rfl (fun c159 hs => ?_) (fun c159 hs => ?_))))))))
        ·
         refine wc_seq (wc_region (wl_ok (r_assign (v := (.bool (false))) rfl) (wl_nil (then_normal (wc_ret (then_ret (fin1 (v := (.bool (false))) Tryd.results5 rfl ?_)))))))
         obtain rfl := Option.some.inj hs
         exact ⟨h.grown, rfl⟩
        ·
         refine wc_skip (then_normal (wc_seq (wc_region (wl_ok (r_ldBN (vs := [v155, v157]) h 3 rfl Many37 rfl rfl rfl) ?_))))
         obtain ⟨y160, e161, hs⟩ := o_bind hs
         refine w_call fnOk22 rfl rfl (disk_Recover_c N _ _ h.lt (hT.go h.keep) (⟨y156, y158⟩ : Disk) v155 v157 (h.rdAt 326 rfl) (h.rdAt 327 rfl) _ e161) ?_
         rintro _ w ⟨k169, u162, u164, u166, rfl, g163, g165, g167, g168⟩
         refine ⟨_, rfl, ?_⟩
         replace h := h.gotOwn 244 k169 g167 g168
         replace h := h.knowRd 242 g163.upO
         replace h := h.knowRd 243 g165.upO.up
         refine wl_ok (r_move (v := (.tuple #[(.agg #[u162, u164]), u166, (.int .i64 (y160.2.2))])) rfl) (wl_ok (r_extract rfl rfl) (wl_ok (r_extract rfl rfl) (wl_ok (r_extract rfl rfl) (w_allocN h 245 Many37 fun w b170 h => w_stN (vs := [u162, u164]) h 245 [u162, u164] rfl Many37 rfl rfl rfl rfl rfl (ones_cons (h.rdAt 242 rfl).one (ones_cons (h.rdAt 243 rfl).one ones_nil)) fun w h => wl_ok (r_assign (v := u166) rfl) (wl_ok (r_assign (v := (.int .i64 (y160.2.2))) rfl) (wl_nil (then_normal (wc_seq (wc_join (σ := Bool) (inl [51, 52, 53, 54, 55, 56, 57, 58, 59, 60, 61, 62, 63, 64, 65, 66, 67, 68, 69, 70, 71, 72, 73, 74, 75, 76, 77, 78, 79, 80, 81]) (fun x171 => [(81, (.bool (x171)))]) (fun x171 w => SH w0 M BE w (hset [(242, .rd rByte u162 y160.1.safe), (243, .rd rByte u164 y160.1.wait), (244, .own rRec 24 u166 y160.2.1), (245, .blk b170 [u162, u164])]) ∧ wandererlaw_DiskKeeps_j51 N y160 x171 = some r) ?_ ?_)))))))))
         ·
          rintro x171 w junk ⟨h, hs⟩
          refine wc_ifb hs rfl (fun c172 hs => ?_) (fun c172 hs => ?_)
          ·
           refine wc_seq (wc_region (wl_ok (r_assign (v := (.bool (false))) rfl) (wl_nil (then_normal (wc_ret (then_ret (fin1 (v := (.bool (false))) Tryd.results5 rfl ?_)))))))
           obtain rfl := Option.some.inj hs
           exact ⟨h.grown, rfl⟩
          ·
           refine wc_skip (then_normal (wc_seq (wc_region (wl_ok (r_ldBN (vs := [u162, u164]) h 245 rfl Many37 rfl rfl rfl) ?_))))
           obtain ⟨y173, e174, hs⟩ := o_bind hs
           refine w_call fnOk22 rfl rfl (disk_Recover_c N _ _ h.lt (hT.go h.keep) y160.1 u162 u164 (h.rdAt 242 rfl) (h.rdAt 243 rfl) _ e174) ?_
           rintro _ w ⟨k182, u175, u177, u179, rfl, g176, g178, g180, g181⟩
           refine ⟨_, rfl, ?_⟩
           replace h := h.gotOwn 248 k182 g180 g181
           replace h := h.knowRd 246 g176.upO
           replace h := h.knowRd 247 g178.upO.up
           refine wl_ok (r_move (v := (.tuple #[(.agg #[u175, u177]), u179, (.int .i64 (y173.2.2))])) rfl) (wl_ok (r_extract rfl rfl) (wl_ok (r_extract rfl rfl) (wl_ok (r_extract rfl rfl) (w_allocN h 249 Many37 fun w b183 h => w_stN (vs := [u175, u177]) h 249 [u175, u177] rfl Many37 rfl rfl rfl rfl rfl (ones_cons (h.rdAt 246 rfl).one (ones_cons (h.rdAt 247 rfl).one ones_nil)) fun w h => wl_ok (r_assign (v := u179) rfl) (wl_ok (r_assign (v := (.int .i64 (y173.2.2))) rfl) (wl_nil (then_normal (wc_seq (wc_region (wl_ok (r_move (v := (.int .i64 (y173.2.2))) rfl) (wl_ok (r_eql rfl rfl) (wl_ok (r_move (v := (.bool (decide ((y173.2.2 : Int) = 0)))) rfl) (c_split (b := decide ((y173.2.2 : Int) = 0)) hs (fun c184 hs => ?_) (fun c184 hs => ?_))))))))))))))
           ·
            refine wl_on rfl (congrArg Value.bool c184) (wl_ok (r_ldBN (vs := [u175, u177]) h 249 rfl Many37 rfl rfl rfl) (wl_on rfl (congrArg Value.bool c184) (wl_ok (r_ldBN (vs := [u162, u164]) h 245 rfl Many37 rfl rfl rfl) (wl_on rfl (congrArg Value.bool c184) ?_))))
            obtain ⟨y185, e186, hs⟩ := o_bind hs
            refine w_call fnOk25 rfl rfl (disk_Same_c _ _ h.lt y173.1 u175 u177 (h.rdS 246 rfl) (h.rdS 247 rfl) y160.1 u162 u164 (h.rdS 242 rfl) (h.rdS 243 rfl) _ e186) ?_
            rintro _ w ⟨k187, rfl⟩
            refine ⟨_, rfl, ?_⟩
            replace h := h.grow k187
            refine wl_ok (r_pick (b := true) (v := (.bool (y185))) (congrArg Value.bool c184) rfl) (wl_ok (r_move (v := (.bool (y185))) rfl) (c_split (b := y185) hs (fun c188 hs => ?_) (fun c188 hs => ?_)))
            ·
             refine wl_on rfl (congrArg Value.bool c188) (wl_ok (r_move (v := u179) rfl) (wl_on rfl (congrArg Value.bool c188) (wl_ok (r_move (v := u166) rfl) (wl_on rfl (congrArg Value.bool c188) (w_callIn (args := [u179, u166, (.func (.func 10) #[] #[])]) fnOk23 rfl rfl (calls_start (args := [u179, u166, (.func (.func 10) #[] #[])]) Tryd.func23 rfl Tryd.ntmps23 (Nat.le_of_ble_eq_true rfl) (wc_seq (wc_region (wl_ok (r_assign (v := (.bool (false))) rfl) (wl_nil (then_normal (wc_seq (wc_seq (wc_region (wl_ok (r_move (v := u179) rfl) (wl_ok (r_len SliceOf34 rfl (h.ownS 248 rfl)) (wl_ok (r_move (v := u166) rfl) (wl_ok (r_len SliceOf34 rfl (h.ownS 244 rfl)) (wl_ok (r_neq rfl rfl) (wl_nil (then_normal (wc_ifb hs rfl (fun c189 hs => ?_) (fun c189 hs => ?_)))))))))))))))))))))))
             ·
              refine wc_seq (wc_region (wl_ok (r_assign (v := (.bool (false))) rfl) (wl_nil (then_normal (wc_ret (then_ret (fin1 (v := (.bool (false))) Tryd.results23 rfl (⟨_, rfl, ?_⟩))))))))
              refine wl_ok (r_pick (b := true) (v := (.bool (false))) (congrArg Value.bool c188) rfl) (wl_ok (r_move (v := (.bool (false))) rfl) (wl_off (b' := false) rfl rfl rfl (wl_off (b' := false) rfl rfl rfl (wl_off (b' := false) rfl rfl rfl (wl_off (b' := false) rfl rfl rfl (wl_ok (r_pick (b := false) (v := (.bool (false))) rfl rfl) (wl_ok (r_assign (v := (.bool (false))) rfl) (wl_nil (then_normal (wc_ret (fin1 (v := (.bool (false))) Tryd.results5 rfl ?_)))))))))))
              obtain rfl := Option.some.inj hs
              exact ⟨h.grown, rfl⟩
             ·
              refine wc_skip (then_normal (wc_seq (wc_seq (wc_region (wl_ok (r_move (v := u179) rfl) (wl_ok (r_len SliceOf34 rfl (h.ownS 248 rfl)) (wl_ok (r_move (v := (.int .i64 (0))) rfl) (wl_nil (then_normal (wc_block ?_))))))))))
              have hli191 := (h.ownS 248 rfl).len_le
              refine wc_lp (σ := Nat × Int) (inl [6, 7, 8, 9, 17, 18, 19, 20, 21, 22, 23, 24, 25, 26, 27, 28, 29, 30, 31]) (fun ⟨k190, i191⟩ => [(17, (.int .i64 (i191)))]) (fun ⟨k190, i191⟩ w => SH w0 M BE w (hset [(242, .rd rByte u162 y160.1.safe), (243, .rd rByte u164 y160.1.wait), (244, .own rRec 24 u166 y160.2.1), (245, .blk b170 [u162, u164]), (246, .rd rByte u175 y173.1.safe), (247, .rd rByte u177 y173.1.wait), (248, .own rRec 24 u179 y173.2.1), (249, .blk b183 [u175, u177])]) ∧ i191 = (k190 : Int) ∧ upto (wandererlaw_DiskKeeps_b58 y173 y160) (wandererlaw_DiskKeeps_k59 y160) i191 (((y173.2.1.length : Int)).toNat - k190) () = some r) (fun ⟨k190, i191⟩ => ((y173.2.1.length : Int)).toNat - k190) ⟨0, 0⟩ ⟨rfl, trivial⟩ ?_ ?_
              ·
               exact ⟨h.cn _, rfl, hs⟩
              ·
               rintro ⟨k190, i191⟩ w junk ⟨h, hik, hs⟩
               refine wc_seq (wc_region ?_)
               refine wl_ok (r_lss rfl rfl) (wl_nil (then_normal ?_))
               refine wc_seq (wc_if rfl (fun e195 => ?_) (fun e195 => ?_))
               ·
                refine wc_skip (then_normal ?_)
                rw [upto_lt (by have := of_decide_eq_true e195; omega)] at hs
                generalize hnx194 : upto (wandererlaw_DiskKeeps_b58 y173 y160) (wandererlaw_DiskKeeps_k59 y160) (i191 + 1) (((y173.2.1.length : Int)).toNat - (k190 + 1)) = nx194 at hs
                have e196r : I64 (i191 + 1) := (by have := of_decide_eq_true e195; have := hli191; exact I64.mk (by omega) (by omega))
                refine wc_seq (wc_block (wc_seq (wc_region (wl_ok (r_move (v := (.int .i64 (i191))) rfl) ?_))))
                obtain ⟨x197, e198, hs⟩ := o_bind hs
                obtain ⟨b200, q201, i199⟩ := h.ixO 248 rfl SliceOf34 rfl (o_idx e198).1 (o_idx e198).2
                refine wl_ok (i199 _ _ _ _ _ _ _ _ _ rfl rfl) ?_
                obtain ⟨cs202, m203, r204⟩ := h.elO 248 rfl q201 (o_idx e198).2
                obtain ⟨u205, u207, rfl, g206, g208⟩ := rRec_open r204
                replace h := h.knowRd 250 g206
                replace h := h.knowRd 251 g208.up
                refine wl_ok (r_ldAN (k := 0) (vs := [(.int .i64 (x197.kind)), (.int .i64 (x197.co)), (.int .i64 (x197.epoch)), (.int .i64 (x197.place)), u205, u207]) m203 Many24 rfl rfl rfl (Nat.le_of_ble_eq_true rfl)) (w_allocN h 252 Many24 fun w b209 h => wl_ok (r_assign (v := (.int .i64 (i191))) rfl) (w_stN (vs := [(.int .i64 (x197.kind)), (.int .i64 (x197.co)), (.int .i64 (x197.epoch)), (.int .i64 (x197.place)), u205, u207]) h 252 [(.int .i64 (x197.kind)), (.int .i64 (x197.co)), (.int .i64 (x197.epoch)), (.int .i64 (x197.place)), u205, u207] rfl Many24 rfl rfl rfl rfl rfl (ones_cons rfl (ones_cons rfl (ones_cons rfl (ones_cons rfl (ones_cons (h.rdAt 250 rfl).one (ones_cons (h.rdAt 251 rfl).one ones_nil)))))) fun w h => wl_nil (then_normal (wc_seq (wc_region (wl_ok (r_move (v := u166) rfl) (wl_ok (r_move (v := (.int .i64 (i191))) rfl) ?_)))))))
                obtain ⟨x210, e211, hs⟩ := o_bind hs
                obtain ⟨b213, q214, i212⟩ := h.ixO 244 rfl SliceOf34 rfl (o_idx e211).1 (o_idx e211).2
                refine wl_ok (i212 _ _ _ _ _ _ _ _ _ rfl rfl) ?_
                obtain ⟨cs215, m216, r217⟩ := h.elO 244 rfl q214 (o_idx e211).2
                obtain ⟨u218, u220, rfl, g219, g221⟩ := rRec_open r217
                replace h := h.knowRd 253 g219
                replace h := h.knowRd 254 g221.up
                refine wl_ok (r_ldAN (k := 0) (vs := [(.int .i64 (x210.kind)), (.int .i64 (x210.co)), (.int .i64 (x210.epoch)), (.int .i64 (x210.place)), u218, u220]) m216 Many24 rfl rfl rfl (Nat.le_of_ble_eq_true rfl)) (w_allocN h 255 Many24 fun w b222 h => w_stN (vs := [(.int .i64 (x210.kind)), (.int .i64 (x210.co)), (.int .i64 (x210.epoch)), (.int .i64 (x210.place)), u218, u220]) h 255 [(.int .i64 (x210.kind)), (.int .i64 (x210.co)), (.int .i64 (x210.epoch)), (.int .i64 (x210.place)), u218, u220] rfl Many24 rfl rfl rfl rfl rfl (ones_cons rfl (ones_cons rfl (ones_cons rfl (ones_cons rfl (ones_cons (h.rdAt 253 rfl).one (ones_cons (h.rdAt 254 rfl).one ones_nil)))))) fun w h => wl_nil (then_normal (wc_seq (wc_region (wl_ok (r_move (v := (.func (.func 10) #[] #[])) rfl) (wl_ok (r_ldBN (vs := [(.int .i64 (x197.kind)), (.int .i64 (x197.co)), (.int .i64 (x197.epoch)), (.int .i64 (x197.place)), u205, u207]) h 252 rfl Many24 rfl rfl rfl) (wl_ok (r_ldBN (vs := [(.int .i64 (x210.kind)), (.int .i64 (x210.co)), (.int .i64 (x210.epoch)), (.int .i64 (x210.place)), u218, u220]) h 255 rfl Many24 rfl rfl rfl) ?_)))))))
                obtain ⟨y223, e224, hs⟩ := o_bind hs
                refine w_call fnOk10 rfl rfl (record_Same_c _ _ h.lt x197 u205 u207 (h.rdS 250 rfl) (h.rdS 251 rfl) x210 u218 u220 (h.rdS 253 rfl) (h.rdS 254 rfl) _ e224) ?_
                rintro _ w ⟨k225, rfl⟩
                refine ⟨_, rfl, ?_⟩
                replace h := h.grow k225
                refine wl_ok (r_notb rfl) (wl_nil (then_normal (wc_ifb hs rfl (fun c226 hs => ?_) (fun c226 hs => ?_))))
                ·
                 refine wc_seq (wc_region (wl_ok (r_assign (v := (.bool (false))) rfl) (wl_nil (then_normal (wc_ret (inBlock_ret (then_ret (then_ret (inBlock_ret (then_ret (fin1 (v := (.bool (false))) Tryd.results23 rfl (⟨_, rfl, ?_⟩))))))))))))
                 refine wl_ok (r_pick (b := true) (v := (.bool (false))) (congrArg Value.bool c188) rfl) (wl_ok (r_move (v := (.bool (false))) rfl) (wl_off (b' := false) rfl rfl rfl (wl_off (b' := false) rfl rfl rfl (wl_off (b' := false) rfl rfl rfl (wl_off (b' := false) rfl rfl rfl (wl_ok (r_pick (b := false) (v := (.bool (false))) rfl rfl) (wl_ok (r_assign (v := (.bool (false))) rfl) (wl_nil (then_normal (wc_ret (fin1 (v := (.bool (false))) Tryd.results5 rfl ?_)))))))))))
                 obtain rfl := Option.some.inj hs
                 exact ⟨h.grown, rfl⟩
                ·
                 refine wc_skip (inBlock_normal (then_normal (wc_region (wl_ok (r_add rfl rfl e196r) (wl_ok (r_move (v := (.int .i64 ((i191 + 1)))) rfl) (wl_nil (then_loop ?_)))))))
                 subst hnx194
                 exact lend ⟨k190 + 1, i191 + 1⟩ ⟨h.cn _, by omega, hs⟩ (by have := of_decide_eq_true e195; dsimp only; omega)
               ·
                rw [upto_ge (by have := of_decide_eq_false e195; omega)] at hs
                refine wc_exit (then_exit (then_exit (inBlock_eq (then_normal (wc_seq (wc_region (wl_ok (r_assign (v := (.bool (true))) rfl) (wl_nil (then_normal (wc_ret (fin1 (v := (.bool (true))) Tryd.results23 rfl (⟨_, rfl, ?_⟩))))))))))))
                refine wl_ok (r_pick (b := true) (v := (.bool (true))) (congrArg Value.bool c188) rfl) (wl_ok (r_move (v := (.bool (true))) rfl) (wl_on rfl rfl (wl_ok (r_fieldAddr Fld37x1 rfl) (wl_on rfl rfl (wl_ok (r_ldB h 245 rfl One35 rfl rfl) (wl_on rfl rfl (wl_ok (r_len SliceOf35 rfl (h.rdS 243 rfl)) (wl_on rfl rfl (wl_ok (r_eql rfl rfl) (wl_ok (r_pick (b := true) (v := (.bool (decide (((y160.1.wait.length : Int) : Int) = 0)))) rfl rfl) (wl_ok (r_assign (v := (.bool (decide (((y160.1.wait.length : Int) : Int) = 0)))) rfl) (wl_nil (then_normal (wc_ret (fin1 (v := (.bool (decide (((y160.1.wait.length : Int) : Int) = 0)))) Tryd.results5 rfl ?_)))))))))))))))
                obtain rfl := Option.some.inj hs
                exact ⟨h.grown, rfl⟩
            ·
             refine wl_off (b' := false) rfl (congrArg Value.bool c188) rfl (wl_off (b' := false) rfl (congrArg Value.bool c188) rfl (wl_off (b' := false) rfl (congrArg Value.bool c188) rfl (wl_ok (r_pick (b := false) (v := (.bool (false))) (congrArg Value.bool c188) rfl) (wl_ok (r_move (v := (.bool (false))) rfl) (wl_off (b' := false) rfl rfl rfl (wl_off (b' := false) rfl rfl rfl (wl_off (b' := false) rfl rfl rfl (wl_off (b' := false) rfl rfl rfl (wl_ok (r_pick (b := false) (v := (.bool (false))) rfl rfl) (wl_ok (r_assign (v := (.bool (false))) rfl) (wl_nil (then_normal (wc_ret (fin1 (v := (.bool (false))) Tryd.results5 rfl ?_))))))))))))))
             obtain rfl := Option.some.inj hs
             exact ⟨h.grown, rfl⟩
           ·
            refine wl_off (b' := false) rfl (congrArg Value.bool c184) rfl (wl_off (b' := false) rfl (congrArg Value.bool c184) rfl (wl_off (b' := false) rfl (congrArg Value.bool c184) rfl (wl_ok (r_pick (b := false) (v := (.bool (false))) (congrArg Value.bool c184) rfl) (wl_ok (r_move (v := (.bool (false))) rfl) (wl_off (b' := false) rfl rfl rfl (wl_off (b' := false) rfl rfl rfl (wl_off (b' := false) rfl rfl rfl (wl_ok (r_pick (b := false) (v := (.bool (false))) rfl rfl) (wl_ok (r_move (v := (.bool (false))) rfl) (wl_off (b' := false) rfl rfl rfl (wl_off (b' := false) rfl rfl rfl (wl_off (b' := false) rfl rfl rfl (wl_off (b' := false) rfl rfl rfl (wl_ok (r_pick (b := false) (v := (.bool (false))) rfl rfl) (wl_ok (r_assign (v := (.bool (false))) rfl) (wl_nil (then_normal (wc_ret (fin1 (v := (.bool (false))) Tryd.results5 rfl ?_)))))))))))))))))))
            obtain rfl := Option.some.inj hs
            exact ⟨h.grown, rfl⟩
         ·
          refine wc_region (wl_ok (r_move (v := (.int .i64 (y160.2.2))) rfl) (wl_ok (r_neq rfl rfl) (wl_ok (r_move (v := (.bool (decide ((y160.2.2 : Int) ≠ 0)))) rfl) (wl_gd0 rfl rfl (fun q => r_move (v := u166) rfl) (wl_gd0 rfl rfl (fun q => r_len SliceOf34 (gvt q) (h.ownS 244 rfl)) (wl_gd0 rfl rfl (fun q => r_move (v := v29) rfl) (wl_gd0 rfl rfl (fun q => r_len SliceOf34 (gvt q) (h.ownS 14 rfl)) (wl_gd0 rfl rfl (fun q => r_lss (gvt q) (gvt q)) (wl_ok (r_por rfl rfl evc) (wl_ok (r_move (v := (.bool ((decide ((y160.2.2 : Int) ≠ 0) || decide (((y160.2.1.length : Int) : Int) < (x30.length : Int)))))) rfl) (c_split (b := (decide ((y160.2.2 : Int) ≠ 0) || decide (((y160.2.1.length : Int) : Int) < (x30.length : Int)))) hs (fun c227 hs => ?_) (fun c227 hs => ?_))))))))))))
          ·
           refine wl_off (b' := true) rfl (congrArg Value.bool c227) rfl (wl_off (b' := true) rfl (congrArg Value.bool c227) rfl (wl_off (b' := true) rfl (congrArg Value.bool c227) rfl (wl_off (b' := true) rfl (congrArg Value.bool c227) rfl (wl_off (b' := true) rfl (congrArg Value.bool c227) rfl (wl_off (b' := true) rfl (congrArg Value.bool c227) rfl (wl_off (b' := true) rfl (congrArg Value.bool c227) rfl (wl_off (b' := true) rfl (congrArg Value.bool c227) rfl (wl_ok (r_pick (b := true) (v := (.bool (true))) (congrArg Value.bool c227) rfl) (wl_ok (r_move (v := (.bool (true))) rfl) (wl_off (b' := true) rfl rfl rfl (wl_off (b' := true) rfl rfl rfl (wl_off (b' := true) rfl rfl rfl (wl_off (b' := true) rfl rfl rfl (wl_off (b' := true) rfl rfl rfl (wl_off (b' := true) rfl rfl rfl (wl_off (b' := true) rfl rfl rfl (wl_off (b' := true) rfl rfl rfl (wl_off (b' := true) rfl rfl rfl (wl_off (b' := true) rfl rfl rfl (wl_ok (r_pick (b := true) (v := (.bool (true))) rfl rfl) (wl_nil (then_loop ?_))))))))))))))))))))))
           exact jend true ⟨h.cn _, hs⟩
          ·
           refine wl_on rfl (congrArg Value.bool c227) (wl_ok (r_move (v := u166) rfl) (wl_on rfl (congrArg Value.bool c227) (wl_ok (r_len SliceOf34 rfl (h.ownS 244 rfl)) (wl_on rfl (congrArg Value.bool c227) (wl_ok (r_move (v := v29) rfl) (wl_on rfl (congrArg Value.bool c227) (wl_ok (r_len SliceOf34 rfl (h.ownS 14 rfl)) (wl_on rfl (congrArg Value.bool c227) (wl_ok (r_move (v := v107) rfl) (wl_on rfl (congrArg Value.bool c227) (wl_ok (r_len SliceOf34 rfl (h.ownS 134 rfl)) (wl_on rfl (congrArg Value.bool c227) ?_))))))))))))
           obtain ⟨a228, hs⟩ := o_grd hs
           refine wl_ok (r_add rfl rfl a228) (wl_on rfl (congrArg Value.bool c227) (wl_ok (r_gtr rfl rfl) (wl_ok (r_pick (b := false) (v := (.bool (decide ((((x30.length : Int) + (x108.length : Int)) : Int) < (y160.2.1.length : Int))))) (congrArg Value.bool c227) rfl) (wl_ok (r_move (v := (.bool (decide ((((x30.length : Int) + (x108.length : Int)) : Int) < (y160.2.1.length : Int))))) rfl) (c_split (b := decide ((((x30.length : Int) + (x108.length : Int)) : Int) < (y160.2.1.length : Int))) hs (fun c229 hs => ?_) (fun c229 hs => ?_))))))
           ·
            refine wl_off (b' := true) rfl (congrArg Value.bool c229) rfl (wl_off (b' := true) rfl (congrArg Value.bool c229) rfl (wl_off (b' := true) rfl (congrArg Value.bool c229) rfl (wl_off (b' := true) rfl (congrArg Value.bool c229) rfl (wl_off (b' := true) rfl (congrArg Value.bool c229) rfl (wl_off (b' := true) rfl (congrArg Value.bool c229) rfl (wl_off (b' := true) rfl (congrArg Value.bool c229) rfl (wl_off (b' := true) rfl (congrArg Value.bool c229) rfl (wl_off (b' := true) rfl (congrArg Value.bool c229) rfl (wl_off (b' := true) rfl (congrArg Value.bool c229) rfl (wl_ok (r_pick (b := true) (v := (.bool (true))) (congrArg Value.bool c229) rfl) (wl_nil (then_loop ?_))))))))))))
            exact jend true ⟨h.cn _, hs⟩
           ·
            refine wl_on rfl (congrArg Value.bool c229) (wl_ok (r_move (v := u166) rfl) (wl_on rfl (congrArg Value.bool c229) (wl_ok (r_move (v := v29) rfl) (wl_on rfl (congrArg Value.bool c229) (wl_ok (r_move (v := v107) rfl) (wl_on rfl (congrArg Value.bool c229) ?_))))))
            replace h := h.freeze 14 rfl
            replace h := h.freeze 134 rfl
            refine w_bs (R := (rSl rRec)) (vs := [v29, v107]) (xs := [x30, x108]) h 256 ElemOf78 rfl rfl rfl ⟨(h.rdAt 14 rfl).rdc, ⟨(h.rdAt 134 rfl).rdc, trivial⟩⟩ rfl fun w u230 h => wl_on rfl (congrArg Value.bool c229) ?_
            obtain ⟨y231, e232, hs⟩ := o_bind hs
            refine w_call fnOk24 rfl rfl (slices_Concat_Rec_c _ _ h.lt u230 [x30, x108] (h.ownS 256 rfl) _ e232) ?_
            rintro _ w ⟨k236, u233, rfl, g234, g235⟩
            refine ⟨_, rfl, ?_⟩
            replace h := h.gotOwn 257 k236 g234 g235
            refine wl_on rfl (congrArg Value.bool c229) (wl_ok (r_move (v := u166) rfl) (wl_on rfl (congrArg Value.bool c229) (wl_ok (r_len SliceOf34 rfl (h.ownS 244 rfl)) (wl_on rfl (congrArg Value.bool c229) ?_))))
            obtain ⟨x237, e238, hs⟩ := o_bind hs
            obtain ⟨e241, e241a, e241b, e241c⟩ := o_sub e238
            replace h := h.freeze 257 rfl
            obtain ⟨u239, h, i240⟩ := h.slR 257 258 rfl SliceOf34 rfl e241a e241b e241c
            rw [← e241] at h
            refine wl_ok (i240 _ _ _ _ _ _ _ _ _ _ rfl (.inl ⟨rfl, rfl⟩) (.inr (congrArg some rfl))) (wl_on rfl (congrArg Value.bool c229) (w_callIn (args := [u166, u239, (.func (.func 10) #[] #[])]) fnOk23 rfl rfl (calls_start (args := [u166, u239, (.func (.func 10) #[] #[])]) Tryd.func23 rfl Tryd.ntmps23 (Nat.le_of_ble_eq_true rfl) (wc_seq (wc_region (wl_ok (r_assign (v := (.bool (false))) rfl) (wl_nil (then_normal (wc_seq (wc_seq (wc_region (wl_ok (r_move (v := u166) rfl) (wl_ok (r_len SliceOf34 rfl (h.ownS 244 rfl)) (wl_ok (r_move (v := u239) rfl) (wl_ok (r_len SliceOf34 rfl (h.rdS 258 rfl)) (wl_ok (r_neq rfl rfl) (wl_nil (then_normal (wc_ifb hs rfl (fun c242 hs => ?_) (fun c242 hs => ?_))))))))))))))))))))
            ·
             refine wc_seq (wc_region (wl_ok (r_assign (v := (.bool (false))) rfl) (wl_nil (then_normal (wc_ret (then_ret (fin1 (v := (.bool (false))) Tryd.results23 rfl (⟨_, rfl, ?_⟩))))))))
             refine wl_on rfl (congrArg Value.bool c229) (wl_ok (r_notb rfl) (wl_ok (r_pick (b := false) (v := (.bool (true))) (congrArg Value.bool c229) rfl) (wl_nil (then_loop ?_))))
             exact jend true ⟨h.cn _, hs⟩
            ·
             refine wc_skip (then_normal (wc_seq (wc_seq (wc_region (wl_ok (r_move (v := u166) rfl) (wl_ok (r_len SliceOf34 rfl (h.ownS 244 rfl)) (wl_ok (r_move (v := (.int .i64 (0))) rfl) (wl_nil (then_normal (wc_block ?_))))))))))
             have hli244 := (h.ownS 244 rfl).len_le
             refine wc_lp (σ := Nat × Int) (inl [6, 7, 8, 9, 17, 18, 19, 20, 21, 22, 23, 24, 25, 26, 27, 28, 29, 30, 31]) (fun ⟨k243, i244⟩ => [(17, (.int .i64 (i244)))]) (fun ⟨k243, i244⟩ w => SH w0 M BE w (hset [(3, .blk b5 [v155, v157]), (14, .rd rRec v29 x30), (134, .rd rRec v107 x108), (242, .rd rByte u162 y160.1.safe), (243, .rd rByte u164 y160.1.wait), (244, .own rRec 24 u166 y160.2.1), (245, .blk b170 [u162, u164]), (256, .own (rSl rRec) 34 u230 [x30, x108]), (257, .rd rRec u233 y231), (258, .rd rRec u239 x237), (326, .rd rByte v155 y156), (327, .rd rByte v157 y158)]) ∧ i244 = (k243 : Int) ∧ upto (wandererlaw_DiskKeeps_b62 N y160 x237) (wandererlaw_DiskKeeps_k63 N y160) i244 (((y160.2.1.length : Int)).toNat - k243) () = some r) (fun ⟨k243, i244⟩ => ((y160.2.1.length : Int)).toNat - k243) ⟨0, 0⟩ ⟨rfl, trivial⟩ ?_ ?_
             ·
              exact ⟨h.cn _, rfl, hs⟩
             ·
              rintro ⟨k243, i244⟩ w junk ⟨h, hik, hs⟩
              refine wc_seq (wc_region ?_)
              refine wl_ok (r_lss rfl rfl) (wl_nil (then_normal ?_))
              refine wc_seq (wc_if rfl (fun e248 => ?_) (fun e248 => ?_))
              ·
               refine wc_skip (then_normal ?_)
               rw [upto_lt (by have := of_decide_eq_true e248; omega)] at hs
               generalize hnx247 : upto (wandererlaw_DiskKeeps_b62 N y160 x237) (wandererlaw_DiskKeeps_k63 N y160) (i244 + 1) (((y160.2.1.length : Int)).toNat - (k243 + 1)) = nx247 at hs
               have e249r : I64 (i244 + 1) := (by have := of_decide_eq_true e248; have := hli244; exact I64.mk (by omega) (by omega))
               refine wc_seq (wc_block (wc_seq (wc_region (wl_ok (r_move (v := (.int .i64 (i244))) rfl) ?_))))
               obtain ⟨x250, e251, hs⟩ := o_bind hs
               obtain ⟨b253, q254, i252⟩ := h.ixO 244 rfl SliceOf34 rfl (o_idx e251).1 (o_idx e251).2
               refine wl_ok (i252 _ _ _ _ _ _ _ _ _ rfl rfl) ?_
               obtain ⟨cs255, m256, r257⟩ := h.elO 244 rfl q254 (o_idx e251).2
               obtain ⟨u258, u260, rfl, g259, g261⟩ := rRec_open r257
               replace h := h.knowRd 259 g259
               replace h := h.knowRd 260 g261.up
               refine wl_ok (r_ldAN (k := 0) (vs := [(.int .i64 (x250.kind)), (.int .i64 (x250.co)), (.int .i64 (x250.epoch)), (.int .i64 (x250.place)), u258, u260]) m256 Many24 rfl rfl rfl (Nat.le_of_ble_eq_true rfl)) (w_allocN h 261 Many24 fun w b262 h => wl_ok (r_assign (v := (.int .i64 (i244))) rfl) (w_stN (vs := [(.int .i64 (x250.kind)), (.int .i64 (x250.co)), (.int .i64 (x250.epoch)), (.int .i64 (x250.place)), u258, u260]) h 261 [(.int .i64 (x250.kind)), (.int .i64 (x250.co)), (.int .i64 (x250.epoch)), (.int .i64 (x250.place)), u258, u260] rfl Many24 rfl rfl rfl rfl rfl (ones_cons rfl (ones_cons rfl (ones_cons rfl (ones_cons rfl (ones_cons (h.rdAt 259 rfl).one (ones_cons (h.rdAt 260 rfl).one ones_nil)))))) fun w h => wl_nil (then_normal (wc_seq (wc_region (wl_ok (r_move (v := u239) rfl) (wl_ok (r_move (v := (.int .i64 (i244))) rfl) ?_)))))))
               obtain ⟨x263, e264, hs⟩ := o_bind hs
               obtain ⟨b266, o267, cs268, h, r269, i265⟩ := h.ixR 258 262 rfl SliceOf34 rfl (o_idx e264).1 (o_idx e264).2
               obtain ⟨u270, u272, rfl, g271, g273⟩ := rRec_open r269
               replace h := h.knowRd 263 g271.up
               replace h := h.knowRd 264 g273.up.up
               refine wl_ok (i265 _ _ _ _ _ _ _ _ _ rfl rfl) (wl_ok (r_ldPN (k := 0) (vs := [(.int .i64 (x263.kind)), (.int .i64 (x263.co)), (.int .i64 (x263.epoch)), (.int .i64 (x263.place)), u270, u272]) h 262 rfl Many24 rfl rfl rfl (Nat.le_of_ble_eq_true rfl)) (w_allocN h 265 Many24 fun w b274 h => w_stN (vs := [(.int .i64 (x263.kind)), (.int .i64 (x263.co)), (.int .i64 (x263.epoch)), (.int .i64 (x263.place)), u270, u272]) h 265 [(.int .i64 (x263.kind)), (.int .i64 (x263.co)), (.int .i64 (x263.epoch)), (.int .i64 (x263.place)), u270, u272] rfl Many24 rfl rfl rfl rfl rfl (ones_cons rfl (ones_cons rfl (ones_cons rfl (ones_cons rfl (ones_cons (h.rdAt 263 rfl).one (ones_cons (h.rdAt 264 rfl).one ones_nil)))))) fun w h => wl_nil (then_normal (wc_seq (wc_region (wl_ok (r_move (v := (.func (.func 10) #[] #[])) rfl) (wl_ok (r_ldBN (vs := [(.int .i64 (x250.kind)), (.int .i64 (x250.co)), (.int .i64 (x250.epoch)), (.int .i64 (x250.place)), u258, u260]) h 261 rfl Many24 rfl rfl rfl) (wl_ok (r_ldBN (vs := [(.int .i64 (x263.kind)), (.int .i64 (x263.co)), (.int .i64 (x263.epoch)), (.int .i64 (x263.place)), u270, u272]) h 265 rfl Many24 rfl rfl rfl) ?_))))))))
               obtain ⟨y275, e276, hs⟩ := o_bind hs
               refine w_call fnOk10 rfl rfl (record_Same_c _ _ h.lt x250 u258 u260 (h.rdS 259 rfl) (h.rdS 260 rfl) x263 u270 u272 (h.rdS 263 rfl) (h.rdS 264 rfl) _ e276) ?_
               rintro _ w ⟨k277, rfl⟩
               refine ⟨_, rfl, ?_⟩
               replace h := h.grow k277
               refine wl_ok (r_notb rfl) (wl_nil (then_normal (wc_ifb hs rfl (fun c278 hs => ?_) (fun c278 hs => ?_))))
               ·
                refine wc_seq (wc_region (wl_ok (r_assign (v := (.bool (false))) rfl) (wl_nil (then_normal (wc_ret (inBlock_ret (then_ret (then_ret (inBlock_ret (then_ret (fin1 (v := (.bool (false))) Tryd.results23 rfl (⟨_, rfl, ?_⟩))))))))))))
                refine wl_on rfl (congrArg Value.bool c229) (wl_ok (r_notb rfl) (wl_ok (r_pick (b := false) (v := (.bool (true))) (congrArg Value.bool c229) rfl) (wl_nil (then_loop ?_))))
                exact jend true ⟨h.cn _, hs⟩
               ·
                refine wc_skip (inBlock_normal (then_normal (wc_region (wl_ok (r_add rfl rfl e249r) (wl_ok (r_move (v := (.int .i64 ((i244 + 1)))) rfl) (wl_nil (then_loop ?_)))))))
                subst hnx247
                exact lend ⟨k243 + 1, i244 + 1⟩ ⟨h.cn _, by omega, hs⟩ (by have := of_decide_eq_true e248; dsimp only; omega)
              ·
               rw [upto_ge (by have := of_decide_eq_false e248; omega)] at hs
               refine wc_exit (then_exit (then_exit (inBlock_eq (then_normal (wc_seq (wc_region (wl_ok (r_assign (v := (.bool (true))) rfl) (wl_nil (then_normal (wc_ret (fin1 (v := (.bool (true))) Tryd.results23 rfl (⟨_, rfl, ?_⟩))))))))))))
               refine wl_on rfl (congrArg Value.bool c229) (wl_ok (r_notb rfl) (wl_ok (r_pick (b := false) (v := (.bool (false))) (congrArg Value.bool c229) rfl) (wl_nil (then_loop ?_))))
               exact jend false ⟨h.cn _, hs⟩
       ·
        refine wck_held (L := (fun x => x = b5)) mixed h fun w h => whk_ok 1 (Keep.refl _ _) rfl want_none (by kernel_rfl) (by kernel_rfl) (by kernel_rfl) (fun w hk => r_move (v := (.int .i64 (c))) rfl) (whk_ok 2 (Keep.refl _ _) rfl want_none (by kernel_rfl) (by kernel_rfl) (by kernel_rfl) (fun w hk => r_fieldAddr Fld37x1 rfl) ?_)
        obtain ⟨aq284x5_1, hs⟩ := o_grd hs
        obtain ⟨yq284x6_1, eq284x6_2, hs⟩ := o_bind hs
        obtain ⟨yq284x7_1, eq284x7_2, hs⟩ := o_bind hs
        obtain ⟨ws285, ws285e⟩ : ∃ x, x = w := ⟨_, rfl⟩
        have hg286 : Keep (fun x => x = b5) ws285 w := ws285e ▸ Keep.refl (fun x => x = b5) w
        refine whk_at ws285e.symm (whk_eff2 0 3 (by kernel_rfl) rfl want_none rfl want_none ?_ ?_)
        ·
         refine wl_ok (r_ldBN (vs := [v109, v111]) h 3 rfl Many37 rfl rfl rfl) (wl_nil (whk_back hg286 (whk_eff 3 (by kernel_rfl) rfl want_none (wl_ok (r_ldB h 3 rfl One35 rfl rfl) (wl_nil (whk_back hg286 (whk_ok 4 hg286 rfl want_none (by kernel_rfl) (by kernel_rfl) (by kernel_rfl) (fun w hk => r_len SliceOf35 rfl (h.rdS 136 rfl)) (whk_ok 5 hg286 rfl want_none (by kernel_rfl) (by kernel_rfl) (by kernel_rfl) (fun w hk => r_add rfl rfl aq284x5_1) (whk_eff 6 (by kernel_rfl) rfl want_none (w_call fnOk21 rfl rfl (wandererlaw_at_c _ _ h.lt c ((y112.length : Int) + 1) _ eq284x6_2) ?_))))))))))
         rintro _ w ⟨kq284x6_3, rfl⟩
         refine ⟨_, rfl, ?_⟩
         replace h := h.grow kq284x6_3
         replace hg286 := hg286.grow kq284x6_3
         refine wl_nil (whk_back hg286 (whk_eff 7 (by kernel_rfl) rfl want_none (w_call fnOk20 rfl rfl (disk_Crash_c N _ _ h.lt (hT.go h.keep) (⟨y110, y112⟩ : Disk) v109 v111 (h.rdS 135 rfl) (h.rdS 136 rfl) yq284x6_1 _ eq284x7_2) ?_)))
         rintro _ w ⟨kq284x7_7, uq284x7_3, uq284x7_5, rfl, gq284x7_4, gq284x7_6⟩
         refine ⟨_, rfl, ?_⟩
         replace h := h.gotRd 350 kq284x7_7 gq284x7_4
         replace h := h.knowRd 351 gq284x7_6.up
         replace hg286 := hg286.grow kq284x7_7
         refine wl_nil (whk_back hg286 (whk_ok 8 hg286 rfl want_none (by kernel_rfl) (by kernel_rfl) (by kernel_rfl) (fun w hk => r_move (v := (.tuple #[(.agg #[uq284x7_3, uq284x7_5]), (.int .i64 (yq284x7_1.2))])) rfl) (whk_ok 9 hg286 rfl want_none (by kernel_rfl) (by kernel_rfl) (by kernel_rfl) (fun w hk => r_extract rfl rfl) (whk_ok 10 hg286 rfl want_none (by kernel_rfl) (by kernel_rfl) (by kernel_rfl) (fun w hk => r_extract rfl rfl) (whk_eff 11 (by kernel_rfl) rfl want_none (w_stNG (vs := [uq284x7_3, uq284x7_5]) h 3 [uq284x7_3, uq284x7_5] rfl Many37 rfl rfl rfl rfl rfl (ones_cons (h.rdAt 350 rfl).one (ones_cons (h.rdAt 351 rfl).one ones_nil)) fun w h kq284x11_1 => ?_))))))
         replace hg286 := hg286.same kq284x11_1
         refine wl_nil (whk_back hg286 (whk_ok 12 hg286 rfl want_none (by kernel_rfl) (by kernel_rfl) (by kernel_rfl) (fun w hk => r_assign (v := (.int .i64 (yq284x7_1.2))) rfl) (whk_done (by kernel_rfl) (then_loop ?_))))
         replace h := h.copyR 350 326 rfl
         replace h := h.copyR 351 327 rfl
         exact jend (yq284x7_1.2, uq284x7_3, yq284x7_1.1.safe, uq284x7_5, yq284x7_1.1.wait) ⟨h.cn _, hs⟩
        ·
         refine wl_ok (r_ldB h 3 rfl One35 rfl rfl) (wl_nil (whk_back hg286 (whk_ok 4 hg286 rfl want_none (by kernel_rfl) (by kernel_rfl) (by kernel_rfl) (fun w hk => r_len SliceOf35 rfl (h.rdS 136 rfl)) (whk_ok 5 hg286 rfl want_none (by kernel_rfl) (by kernel_rfl) (by kernel_rfl) (fun w hk => r_add rfl rfl aq284x5_1) (whk_eff2 0 6 (by kernel_rfl) rfl want_none rfl want_none ?_ ?_)))))
         ·
          refine wl_ok (r_ldBN (vs := [v109, v111]) h 3 rfl Many37 rfl rfl rfl) (wl_nil (whk_back hg286 (whk_eff 6 (by kernel_rfl) rfl want_none (w_call fnOk21 rfl rfl (wandererlaw_at_c _ _ h.lt c ((y112.length : Int) + 1) _ eq284x6_2) ?_))))
          rintro _ w ⟨kq284x6_3, rfl⟩
          refine ⟨_, rfl, ?_⟩
          replace h := h.grow kq284x6_3
          replace hg286 := hg286.grow kq284x6_3
          refine wl_nil (whk_back hg286 (whk_eff 7 (by kernel_rfl) rfl want_none (w_call fnOk20 rfl rfl (disk_Crash_c N _ _ h.lt (hT.go h.keep) (⟨y110, y112⟩ : Disk) v109 v111 (h.rdS 135 rfl) (h.rdS 136 rfl) yq284x6_1 _ eq284x7_2) ?_)))
          rintro _ w ⟨kq284x7_7, uq284x7_3, uq284x7_5, rfl, gq284x7_4, gq284x7_6⟩
          refine ⟨_, rfl, ?_⟩
          replace h := h.gotRd 350 kq284x7_7 gq284x7_4
          replace h := h.knowRd 351 gq284x7_6.up
          replace hg286 := hg286.grow kq284x7_7
          refine wl_nil (whk_back hg286 (whk_ok 8 hg286 rfl want_none (by kernel_rfl) (by kernel_rfl) (by kernel_rfl) (fun w hk => r_move (v := (.tuple #[(.agg #[uq284x7_3, uq284x7_5]), (.int .i64 (yq284x7_1.2))])) rfl) (whk_ok 9 hg286 rfl want_none (by kernel_rfl) (by kernel_rfl) (by kernel_rfl) (fun w hk => r_extract rfl rfl) (whk_ok 10 hg286 rfl want_none (by kernel_rfl) (by kernel_rfl) (by kernel_rfl) (fun w hk => r_extract rfl rfl) (whk_eff 11 (by kernel_rfl) rfl want_none (w_stNG (vs := [uq284x7_3, uq284x7_5]) h 3 [uq284x7_3, uq284x7_5] rfl Many37 rfl rfl rfl rfl rfl (ones_cons (h.rdAt 350 rfl).one (ones_cons (h.rdAt 351 rfl).one ones_nil)) fun w h kq284x11_1 => ?_))))))
          replace hg286 := hg286.same kq284x11_1
          refine wl_nil (whk_back hg286 (whk_ok 12 hg286 rfl want_none (by kernel_rfl) (by kernel_rfl) (by kernel_rfl) (fun w hk => r_assign (v := (.int .i64 (yq284x7_1.2))) rfl) (whk_done (by kernel_rfl) (then_loop ?_))))
          replace h := h.copyR 350 326 rfl
          replace h := h.copyR 351 327 rfl
          exact jend (yq284x7_1.2, uq284x7_3, yq284x7_1.1.safe, uq284x7_5, yq284x7_1.1.wait) ⟨h.cn _, hs⟩
         ·
          refine w_call fnOk21 rfl rfl (wandererlaw_at_c _ _ h.lt c ((y112.length : Int) + 1) _ eq284x6_2) ?_
          rintro _ w ⟨kq284x6_3, rfl⟩
          refine ⟨_, rfl, ?_⟩
          replace h := h.grow kq284x6_3
          replace hg286 := hg286.grow kq284x6_3
          refine wl_nil (whk_back hg286 (whk_eff 0 (by kernel_rfl) rfl want_none (wl_ok (r_ldBN (vs := [v109, v111]) h 3 rfl Many37 rfl rfl rfl) (wl_nil (whk_back hg286 (whk_eff 7 (by kernel_rfl) rfl want_none (w_call fnOk20 rfl rfl (disk_Crash_c N _ _ h.lt (hT.go h.keep) (⟨y110, y112⟩ : Disk) v109 v111 (h.rdS 135 rfl) (h.rdS 136 rfl) yq284x6_1 _ eq284x7_2) ?_)))))))
          rintro _ w ⟨kq284x7_7, uq284x7_3, uq284x7_5, rfl, gq284x7_4, gq284x7_6⟩
          refine ⟨_, rfl, ?_⟩
          replace h := h.gotRd 350 kq284x7_7 gq284x7_4
          replace h := h.knowRd 351 gq284x7_6.up
          replace hg286 := hg286.grow kq284x7_7
          refine wl_nil (whk_back hg286 (whk_ok 8 hg286 rfl want_none (by kernel_rfl) (by kernel_rfl) (by kernel_rfl) (fun w hk => r_move (v := (.tuple #[(.agg #[uq284x7_3, uq284x7_5]), (.int .i64 (yq284x7_1.2))])) rfl) (whk_ok 9 hg286 rfl want_none (by kernel_rfl) (by kernel_rfl) (by kernel_rfl) (fun w hk => r_extract rfl rfl) (whk_ok 10 hg286 rfl want_none (by kernel_rfl) (by kernel_rfl) (by kernel_rfl) (fun w hk => r_extract rfl rfl) (whk_eff 11 (by kernel_rfl) rfl want_none (w_stNG (vs := [uq284x7_3, uq284x7_5]) h 3 [uq284x7_3, uq284x7_5] rfl Many37 rfl rfl rfl rfl rfl (ones_cons (h.rdAt 350 rfl).one (ones_cons (h.rdAt 351 rfl).one ones_nil)) fun w h kq284x11_1 => ?_))))))
          replace hg286 := hg286.same kq284x11_1
          refine wl_nil (whk_back hg286 (whk_ok 12 hg286 rfl want_none (by kernel_rfl) (by kernel_rfl) (by kernel_rfl) (fun w hk => r_assign (v := (.int .i64 (yq284x7_1.2))) rfl) (whk_done (by kernel_rfl) (then_loop ?_))))
          replace h := h.copyR 350 326 rfl
          replace h := h.copyR 351 327 rfl
          exact jend (yq284x7_1.2, uq284x7_3, yq284x7_1.1.safe, uq284x7_5, yq284x7_1.1.wait) ⟨h.cn _, hs⟩
end Go.Proofs.YthlibjllfckhjaaDoor
