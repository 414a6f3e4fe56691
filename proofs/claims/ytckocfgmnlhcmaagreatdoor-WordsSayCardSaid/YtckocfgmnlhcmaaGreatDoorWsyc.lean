/-
  Functions of the program, each as plain Lean, and that the code does just that.
-/
import Derived.Test.YtckocfgmnlhcmaaGreatDoorProg
import Derived.Test.YtckocfgmnlhcmaaGreatDoorLiftE
import Derived.Test.YtckocfgmnlhcmaaGreatDoorWsyStrs
import Derived.Test.YtckocfgmnlhcmaaGreatDoorWsyShelf
import Derived.Test.YtckocfgmnlhcmaaGreatDoorWsyb
set_option linter.unusedSimpArgs false
set_option linter.unusedVariables false
set_option maxRecDepth 10000
namespace Go.Proofs.YtckocfgmnlhcmaaGreatDoor
open Go Go.Proofs Go.LX
noncomputable section
theorem wandererref_SourceRead_c (N : Nat) (w0 : World) (M : BS) (hM : ∀ b, M b → b < w0.heap.size) (hT : Tabs Tryz.prog 5 w0) (a : Str) (r : List Fun × Int) (hs : wandererref_SourceRead N a = some r) :
    Calls Tryz.prog 10 #[(strV a)] w0 (fun e w' => Grow w0 w' ∧ ∃ u0, e = .returned (.tuple #[u0, .int .i64 r.2]) ∧ OwnSl rFun 43 w' M u0 r.1 ∧ (∀ b, ob u0 b → w0.heap.size ≤ b)) := by
 refine calls_start (args := [(strV a)]) Tryz.func10 rfl Tryz.ntmps10 (Nat.le_of_ble_eq_true rfl) ?_
 have h := SH.init hM
 refine wc_seq (wc_region (wl_ok (r_assign (v := (.slice none 0 0)) rfl) (wl_ok (r_assign (v := (.int .i64 (0))) rfl) (wl_nil (then_normal (wc_seq (wc_region (wl_ok (r_move (v := (strV a)) rfl) ?_))))))))
 obtain ⟨y1, e2, hs⟩ := o_bind hs
 refine w_call fnOk22 rfl rfl (strings_Split_c _ _ h.lt (hT.go h.keep) a [32] _ e2) ?_
 rintro _ w ⟨k5, u3, rfl, g4⟩
 refine ⟨_, rfl, ?_⟩
 replace h := h.gotRd 1 k5 g4
 refine w_alloc1 h 2 One45 fun w b6 h => w_st1 h 2 [u3] rfl One45 rfl rfl rfl rfl (h.rdAt 1 rfl).one fun w h => wl_nil (then_normal (wc_seq (wc_region (w_alloc1 h 3 One22 fun w b7 h => wl_nil (then_normal (wc_seq (wc_seq (wc_region (wl_ok (r_ldB h 2 rfl One45 rfl rfl) (wl_ok (r_len SliceOf45 rfl (h.rdS 1 rfl)) (wl_ok (r_move (v := (.int .i64 (0))) rfl) (wl_nil (then_normal (wc_block ?_))))))))))))))
 replace h := h.nilO (R := rFun) (E := 43) 7
 refine wc_lp (σ := Nat × Int × Value × List Fun) (inl [6, 7, 8, 9, 10, 11, 24, 25, 26, 27, 28, 29, 30, 31, 32, 33, 34, 35, 36, 37, 38, 39, 40, 41, 42, 43, 44, 45, 46, 47, 48, 49, 50, 51, 52, 53, 54, 55, 56, 57, 58, 59, 60, 61, 62]) (fun ⟨k16, i17, v14, y15⟩ => [(24, (.int .i64 (i17)))]) (fun ⟨k16, i17, v14, y15⟩ w => SH w0 M BE w (hset [(1, .rd rStr u3 y1), (2, .blk b6 [u3]), (3, .blk b7 [v14]), (7, .own rFun 43 v14 y15)]) ∧ i17 = (k16 : Int) ∧ eachI (wandererref_SourceRead_b91 y1) (wandererref_SourceRead_k92 N y1 a) i17 (y1.drop k16) y15 = some r) (fun ⟨k16, i17, v14, y15⟩ => y1.length - k16) ⟨0, 0, (.slice none 0 0), []⟩ ⟨rfl, trivial⟩ ?_ ?_
 ·
  exact ⟨h.cn _, rfl, hs⟩
 ·
  rintro ⟨k16, i17, v14, y15⟩ w junk ⟨h, hik, hs⟩
  refine wc_seq (wc_region ?_)
  refine wl_ok (r_lss rfl rfl) (wl_nil (then_normal ?_))
  refine wc_seq (wc_if rfl (fun e21 => ?_) (fun e21 => ?_))
  ·
   refine wc_skip (then_normal ?_)
   obtain ⟨x18, e22a, e22b⟩ := drop_lt (hik ▸ e21)
   rw [e22b, eachI_cons] at hs
   generalize hnx20 : eachI (wandererref_SourceRead_b91 y1) (wandererref_SourceRead_k92 N y1 a) (i17 + 1) (y1.drop (k16 + 1)) = nx20 at hs
   have e22r := nat_rng ((h.rdS 1 rfl)).len_le hik e21
   refine wc_join (σ := Value × List Fun) (inl [6, 7, 8, 9, 10, 11, 26, 27, 28, 29, 30, 31, 32, 33, 34, 35, 36, 37, 38, 39, 40, 41, 42, 43, 44, 45, 46, 47, 48, 49, 50, 51, 52, 53, 54, 55, 56, 57, 58, 59, 60, 61]) (fun ⟨v23, y24⟩ => []) (fun ⟨v23, y24⟩ w => SH w0 M BE w (hset [(1, .rd rStr u3 y1), (2, .blk b6 [u3]), (3, .blk b7 [v23]), (7, .own rFun 43 v23 y24)]) ∧ wandererref_SourceRead_j19 nx20 y24 = some r) ?_ ?_
   ·
    rintro ⟨v23, y24⟩ w junk ⟨h, hs⟩
    refine wc_region (wl_ok (r_add rfl rfl e22r) (wl_ok (r_move (v := (.int .i64 ((i17 + 1)))) rfl) (wl_nil (then_loop ?_))))
    subst hnx20
    exact lend ⟨k16 + 1, i17 + 1, v23, y24⟩ ⟨h.cn _, by omega, hs⟩ (by have := of_decide_eq_true e21; dsimp only; omega)
   ·
    refine wc_block (wc_seq (wc_region (wl_ok (r_move (v := (.int .i64 (i17))) rfl) ?_)))
    obtain ⟨b26, o27, cs28, h, r29, i25⟩ := h.ixR 1 8 rfl SliceOf45 rfl (nat_nn hik) (get_nat hik e22a)
    obtain rfl := r29
    refine wl_ok (i25 _ _ _ _ _ _ _ _ _ rfl rfl) (wl_ok (r_ldP (k := 0) h 8 rfl One9 rfl rfl) (wl_ok (r_assign (v := (.int .i64 (i17))) rfl) (wl_ok (r_assign (v := (strV x18)) rfl) (wl_nil (then_normal (wc_join (σ := Bool) (inl [29, 30, 31, 32, 33, 34, 35, 36, 37]) (fun x30 => [(37, (.bool (x30)))]) (fun x30 w => SH w0 M BE w (hset [(1, .rd rStr u3 y1), (2, .blk b6 [u3]), (3, .blk b7 [v14]), (7, .own rFun 43 v14 y15)]) ∧ wandererref_SourceRead_j20 y1 i17 y15 nx20 x30 = some r) ?_ ?_))))))
    ·
     rintro x30 w junk ⟨h, hs⟩
     refine wc_ifb hs rfl (fun c31 hs => ?_) (fun c31 hs => ?_)
     ·
      refine wc_seq (wc_region (wl_ok (r_ldB h 2 rfl One45 rfl rfl) (wl_ok (r_move (v := (.int .i64 (i17))) rfl) (wl_ok (r_add rfl rfl e22r) ?_))))
      obtain ⟨x32, e33, hs⟩ := o_bind hs
      obtain ⟨b35, o36, cs37, h, r38, i34⟩ := h.ixR 1 9 rfl SliceOf45 rfl (o_idx e33).1 (o_idx e33).2
      obtain rfl := r38
      refine wl_ok (i34 _ _ _ _ _ _ _ _ _ rfl rfl) (wl_ok (r_ldP (k := 0) h 9 rfl One9 rfl rfl) ?_)
      obtain ⟨y39, e40, hs⟩ := o_bind hs
      refine w_call fnOk31 rfl rfl (strconv_Atoi_c _ _ h.lt (hT.go h.keep) x32 _ e40) ?_
      rintro _ w ⟨k43, u41, rfl, g42⟩
      refine ⟨_, rfl, ?_⟩
      replace h := h.grow k43
      refine wl_ok (r_move (v := (.tuple #[(.int .i64 (y39.1)), u41])) rfl) (wl_ok (r_extract rfl rfl) (wl_ok (r_extract rfl rfl) (wl_ok (r_assign (v := (.int .i64 (y39.1))) rfl) (wl_ok (r_assign (v := u41) rfl) (wl_nil (then_normal (wc_seq (wc_region (wl_ok (r_ldB h 2 rfl One45 rfl rfl) (wl_ok (r_move (v := (.int .i64 (i17))) rfl) ?_))))))))))
      obtain ⟨a44, hs⟩ := o_grd hs
      refine wl_ok (r_add rfl rfl a44) ?_
      obtain ⟨x45, e46, hs⟩ := o_bind hs
      obtain ⟨b48, o49, cs50, h, r51, i47⟩ := h.ixR 1 10 rfl SliceOf45 rfl (o_idx e46).1 (o_idx e46).2
      obtain rfl := r51
      refine wl_ok (i47 _ _ _ _ _ _ _ _ _ rfl rfl) (wl_ok (r_ldP (k := 0) h 10 rfl One9 rfl rfl) ?_)
      obtain ⟨y52, e53, hs⟩ := o_bind hs
      refine w_call fnOk31 rfl rfl (strconv_Atoi_c _ _ h.lt (hT.go h.keep) x45 _ e53) ?_
      rintro _ w ⟨k56, u54, rfl, g55⟩
      refine ⟨_, rfl, ?_⟩
      replace h := h.grow k56
      refine wl_ok (r_move (v := (.tuple #[(.int .i64 (y52.1)), u54])) rfl) (wl_ok (r_extract rfl rfl) (wl_ok (r_extract rfl rfl) (wl_ok (r_assign (v := (.int .i64 (y52.1))) rfl) (wl_ok (r_assign (v := u54) rfl) (wl_nil (then_normal (wc_region (wl_ok (r_ldB h 3 rfl One22 rfl rfl) (wl_ok (r_move (v := (.int .i64 (y39.1))) rfl) (wl_ok (r_move (v := (.int .i64 (y52.1))) rfl) (wl_ok (r_build (pv := [(0, (.int .i64 (y39.1))), (1, (.int .i64 (y52.1)))]) (out := [(.int .i64 (y39.1)), (.int .i64 (y52.1)), (.slice none 0 0)]) Struct43 rfl ⟨0, 1, [(.int .i64 (y39.1))], rfl, rfl, rfl, Nat.le_of_ble_eq_true rfl, ⟨1, 1, [(.int .i64 (y52.1))], rfl, rfl, rfl, Nat.le_of_ble_eq_true rfl, rfl⟩⟩) (w_bs (R := rFun) (vs := [(.agg #[(.int .i64 (y39.1)), (.int .i64 (y52.1)), (.slice none 0 0)])]) (xs := [(⟨y39.1, y52.1, []⟩ : Fun)]) h 11 ElemOf22 rfl rfl rfl ⟨⟨_, rfl, Rd2.nil⟩, trivial⟩ rfl fun w u57 h => ?_))))))))))))
      obtain ⟨a58, hs⟩ := o_grd hs
      refine w_app (R := rFun) (m := [(⟨y39.1, y52.1, []⟩ : Fun)]) h 7 rfl (h.ownS 11 rfl) ElemOf22 rfl rfl rfl a58.1 a58.2 fun w u59 h => w_st1 h 3 [u59] rfl One22 rfl rfl rfl rfl (h.ownAt 7 rfl).one fun w h => wl_nil (inBlock_normal (then_loop ?_))
      exact jend (u59, (y15 ++ [(⟨y39.1, y52.1, []⟩ : Fun)])) ⟨h.cn _, hs⟩
     ·
      refine wc_skip (inBlock_normal (then_loop ?_))
      exact jend (v14, y15) ⟨h.cn _, hs⟩
    ·
     refine wc_region (wl_ok (r_move (v := (strV x18)) rfl) (wl_ok (r_eqls rfl rfl) (wl_ok (r_move (v := (.bool (decide ((x18 : Str) = [102, 117, 110])))) rfl) (c_split (b := decide ((x18 : Str) = [102, 117, 110])) hs (fun c60 hs => ?_) (fun c60 hs => ?_)))))
     ·
      refine wl_on rfl (congrArg Value.bool c60) (wl_ok (r_move (v := (.int .i64 (i17))) rfl) (wl_on rfl (congrArg Value.bool c60) ?_))
      obtain ⟨a61, hs⟩ := o_grd hs
      refine wl_ok (r_add rfl rfl a61) (wl_on rfl (congrArg Value.bool c60) (wl_ok (r_ldB h 2 rfl One45 rfl rfl) (wl_on rfl (congrArg Value.bool c60) (wl_ok (r_len SliceOf45 rfl (h.rdS 1 rfl)) (wl_on rfl (congrArg Value.bool c60) (wl_ok (r_lss rfl rfl) (wl_ok (r_pick (b := true) (v := (.bool (decide (((i17 + 2) : Int) < (y1.length : Int))))) (congrArg Value.bool c60) rfl) (wl_nil (then_loop ?_)))))))))
      exact jend (decide (((i17 + 2) : Int) < (y1.length : Int))) ⟨h.cn _, hs⟩
     ·
      refine wl_off (b' := false) rfl (congrArg Value.bool c60) rfl (wl_off (b' := false) rfl (congrArg Value.bool c60) rfl (wl_off (b' := false) rfl (congrArg Value.bool c60) rfl (wl_off (b' := false) rfl (congrArg Value.bool c60) rfl (wl_off (b' := false) rfl (congrArg Value.bool c60) rfl (wl_ok (r_pick (b := false) (v := (.bool (false))) (congrArg Value.bool c60) rfl) (wl_nil (then_loop ?_)))))))
      exact jend false ⟨h.cn _, hs⟩
  ·
   rw [drop_ge (hik ▸ e21), eachI_nil] at hs
   refine wc_exit (then_exit (then_exit (inBlock_eq (then_normal (wc_seq (wc_seq (wc_region (wl_ok (r_ldB h 3 rfl One22 rfl rfl) (wl_ok (r_len SliceOf22 rfl (h.ownS 7 rfl)) (wl_ok (r_eql rfl rfl) (wl_ok (r_move (v := (.bool (decide (((y15.length : Int) : Int) = 0)))) rfl) (wl_gd0 rfl rfl (fun q => r_ldB h 3 rfl One22 rfl rfl) (wl_gd0 rfl rfl (fun q => r_len SliceOf22 (gvt q) (h.ownS 7 rfl)) (wl_gd0 rfl rfl (fun q => r_gtr (gvt q) rfl) (wl_ok (r_por rfl rfl evc) (wl_nil (then_normal (wc_ifb hs rfl (fun c62 hs => ?_) (fun c62 hs => ?_)))))))))))))))))))
   ·
    refine wc_seq (wc_region (wl_ok (r_assign (v := (.slice none 0 0)) rfl) (wl_ok (r_assign (v := (.int .i64 (1))) rfl) (wl_nil (then_normal (wc_ret (then_ret (fin2 (v1 := (.slice none 0 0)) (v2 := (.int .i64 (1))) Tryz.results10 rfl rfl ?_))))))))
    obtain rfl := Option.some.inj hs
    exact ⟨h.grown, _, rfl, OwnSl.nil, fresh_nil⟩
   ·
    refine wc_skip (then_normal (wc_seq (wc_seq (wc_region (wl_ok (r_ldB h 3 rfl One22 rfl rfl) (wl_ok (r_len SliceOf22 rfl (h.ownS 7 rfl)) (wl_ok (r_move (v := (.int .i64 (0))) rfl) (wl_nil (then_normal (wc_block ?_))))))))))
    have hli64 := (h.ownS 7 rfl).len_le
    refine wc_lp (σ := Nat × Int) (inl [2, 3, 13, 73, 74, 75, 76, 77, 78, 79, 80, 81]) (fun ⟨k63, i64⟩ => [(73, (.int .i64 (i64)))]) (fun ⟨k63, i64⟩ w => SH w0 M BE w (hset [(1, .rd rStr u3 y1), (2, .blk b6 [u3]), (3, .blk b7 [v14]), (7, .own rFun 43 v14 y15)]) ∧ i64 = (k63 : Int) ∧ upto (wandererref_SourceRead_b89 y15) (wandererref_SourceRead_k90 N y1 a y15) i64 (((y15.length : Int)).toNat - k63) () = some r) (fun ⟨k63, i64⟩ => ((y15.length : Int)).toNat - k63) ⟨0, 0⟩ ⟨rfl, trivial⟩ ?_ ?_
    ·
     exact ⟨h.cn _, rfl, hs⟩
    ·
     rintro ⟨k63, i64⟩ w junk ⟨h, hik, hs⟩
     refine wc_seq (wc_region ?_)
     refine wl_ok (r_lss rfl rfl) (wl_nil (then_normal ?_))
     refine wc_seq (wc_if rfl (fun e68 => ?_) (fun e68 => ?_))
     ·
      refine wc_skip (then_normal ?_)
      rw [upto_lt (by have := of_decide_eq_true e68; omega)] at hs
      generalize hnx67 : upto (wandererref_SourceRead_b89 y15) (wandererref_SourceRead_k90 N y1 a y15) (i64 + 1) (((y15.length : Int)).toNat - (k63 + 1)) = nx67 at hs
      have e69r : I64 (i64 + 1) := (by have := of_decide_eq_true e68; have := hli64; exact I64.mk (by omega) (by omega))
      refine wc_seq (wc_block (wc_seq (wc_region ?_)))
      obtain ⟨x70, e71, hs⟩ := o_bind hs
      obtain ⟨b73, q74, i72⟩ := h.ixO 7 rfl SliceOf22 rfl (o_idx e71).1 (o_idx e71).2
      refine wl_ok (i72 _ _ _ _ _ _ _ _ _ rfl rfl) ?_
      obtain ⟨cs75, m76, r77⟩ := h.elO 7 rfl q74 (o_idx e71).2
      obtain ⟨u78, rfl, g79⟩ := rFun_open r77
      replace h := h.knowRd 12 g79
      refine wl_ok (r_ldAN (k := 0) (vs := [(.int .i64 (x70.params)), (.int .i64 (x70.locals)), u78]) m76 Many43 rfl rfl rfl (Nat.le_of_ble_eq_true rfl)) (w_allocN h 13 Many43 fun w b80 h => w_stN (vs := [(.int .i64 (x70.params)), (.int .i64 (x70.locals)), u78]) h 13 [(.int .i64 (x70.params)), (.int .i64 (x70.locals)), u78] rfl Many43 rfl rfl rfl rfl rfl (ones_cons rfl (ones_cons rfl (ones_cons (h.rdAt 12 rfl).one ones_nil))) fun w h => wl_nil (then_normal (wc_seq (wc_region (wl_ok (r_fieldAddr Fld43x0 rfl) (wl_ok (r_ldB h 13 rfl One3 rfl rfl) (w_call fnOk27 rfl rfl (wandererref_in_c _ _ h.lt x70.params 0 3 _ rfl) ?_)))))))
      rintro _ w ⟨k81, rfl⟩
      refine ⟨_, rfl, ?_⟩
      replace h := h.grow k81
      refine wl_ok (r_notb rfl) (wl_nil (then_normal (wc_ifb hs rfl (fun c82 hs => ?_) (fun c82 hs => ?_))))
      ·
       refine wc_seq (wc_region (wl_ok (r_assign (v := (.slice none 0 0)) rfl) (wl_ok (r_assign (v := (.int .i64 (1))) rfl) (wl_nil (then_normal (wc_ret (inBlock_ret (then_ret (then_ret (inBlock_ret (then_ret (fin2 (v1 := (.slice none 0 0)) (v2 := (.int .i64 (1))) Tryz.results10 rfl rfl ?_))))))))))))
       obtain rfl := Option.some.inj hs
       exact ⟨h.grown, _, rfl, OwnSl.nil, fresh_nil⟩
      ·
       refine wc_skip (inBlock_normal (then_normal (wc_region (wl_ok (r_add rfl rfl e69r) (wl_ok (r_move (v := (.int .i64 ((i64 + 1)))) rfl) (wl_nil (then_loop ?_)))))))
       subst hnx67
       exact lend ⟨k63 + 1, i64 + 1⟩ ⟨h.cn _, by omega, hs⟩ (by have := of_decide_eq_true e68; dsimp only; omega)
     ·
      rw [upto_ge (by have := of_decide_eq_false e68; omega)] at hs
      refine wc_exit (then_exit (then_exit (inBlock_eq (then_normal (wc_seq (wc_region (w_alloc1 h 14 One3 fun w b83 h => w_st1 h 14 [(.int .i64 (0))] rfl One3 rfl rfl rfl rfl rfl fun w h => wl_nil (then_normal (wc_seq (wc_region (w_alloc1 h 15 One4 fun w b84 h => w_st1 h 15 [(.bool (true))] rfl One4 rfl rfl rfl rfl rfl fun w h => wl_nil (then_normal (wc_seq (wc_region (wl_ok (r_makeFunc (c1 := []) (c2 := [(.pointer (some ⟨b83, 0, none⟩)), (.pointer (some ⟨b6, 0, none⟩)), (.pointer (some ⟨b84, 0, none⟩))]) rfl rfl) (w_alloc1 h 16 One55 fun w b85 h => w_st1 h 16 [(.func (.func 32) #[] #[(.pointer (some ⟨b83, 0, none⟩)), (.pointer (some ⟨b6, 0, none⟩)), (.pointer (some ⟨b84, 0, none⟩))])] rfl One55 rfl rfl rfl rfl rfl fun w h => wl_nil (then_normal ?_)))))))))))))))))
      refine wc_seq (wc_region (wl_ok (r_makeFunc (c1 := []) (c2 := [(.pointer (some ⟨b84, 0, none⟩)), (.pointer (some ⟨b85, 0, none⟩)), (.pointer (some ⟨b7, 0, none⟩))]) rfl rfl) (w_alloc1 h 17 One77 fun w b86 h => w_st1 h 17 [(.func (.func 33) #[] #[(.pointer (some ⟨b84, 0, none⟩)), (.pointer (some ⟨b85, 0, none⟩)), (.pointer (some ⟨b7, 0, none⟩))])] rfl One77 rfl rfl rfl rfl rfl fun w h => wl_nil (then_normal (wc_seq (wc_region (w_alloc1 h 18 One57 fun w b87 h => wl_nil (then_normal (wc_seq (wc_region (wl_ok (r_makeFunc (c1 := []) (c2 := [(.pointer (some ⟨b85, 0, none⟩)), (.pointer (some ⟨b84, 0, none⟩)), (.pointer (some ⟨b86, 0, none⟩)), (.pointer (some ⟨b87, 0, none⟩))]) rfl rfl) (w_st1 h 18 [(.func (.func 38) #[] #[(.pointer (some ⟨b85, 0, none⟩)), (.pointer (some ⟨b84, 0, none⟩)), (.pointer (some ⟨b86, 0, none⟩)), (.pointer (some ⟨b87, 0, none⟩))])] rfl One57 rfl rfl rfl rfl rfl fun w h => wl_nil (then_normal (wc_seq (wc_seq (wc_region (wl_ok (r_ldB h 3 rfl One22 rfl rfl) (wl_ok (r_len SliceOf22 rfl (h.ownS 7 rfl)) (wl_ok (r_move (v := (.int .i64 (0))) rfl) ?_)))))))))))))))))))
      refine wl_nil (then_normal (wc_block ?_))
      have hli101 := (h.ownS 7 rfl).len_le
      refine wc_lp (σ := Nat × Int × List Fun × Int × Bool) (inl [19, 87, 88, 89, 90, 91, 92, 93, 94, 95, 96, 97, 98, 99, 100, 101, 102, 103]) (fun ⟨k100, i101, y97, y98, y99⟩ => [(87, (.int .i64 (i101)))]) (fun ⟨k100, i101, y97, y98, y99⟩ w => SH w0 M BE w (hset [(1, .rd rStr u3 y1), (2, .blk b6 [u3]), (3, .blk b7 [v14]), (7, .own rFun 43 v14 y97), (14, .blk b83 [(.int .i64 (y98))]), (15, .blk b84 [(.bool (y99))]), (16, .blk b85 [(.func (.func 32) #[] #[(.pointer (some ⟨b83, 0, none⟩)), (.pointer (some ⟨b6, 0, none⟩)), (.pointer (some ⟨b84, 0, none⟩))])]), (17, .blk b86 [(.func (.func 33) #[] #[(.pointer (some ⟨b84, 0, none⟩)), (.pointer (some ⟨b85, 0, none⟩)), (.pointer (some ⟨b7, 0, none⟩))])]), (18, .blk b87 [(.func (.func 38) #[] #[(.pointer (some ⟨b85, 0, none⟩)), (.pointer (some ⟨b84, 0, none⟩)), (.pointer (some ⟨b86, 0, none⟩)), (.pointer (some ⟨b87, 0, none⟩))])])]) ∧ i101 = (k100 : Int) ∧ upto (wandererref_SourceRead_b87 N y1) (wandererref_SourceRead_k88 N y1 a) i101 (((y15.length : Int)).toNat - k100) (y97, y98, y99) = some r) (fun ⟨k100, i101, y97, y98, y99⟩ => ((y15.length : Int)).toNat - k100) ⟨0, 0, y15, 0, true⟩ ⟨rfl, trivial⟩ ?_ ?_
      ·
       exact ⟨h.cn _, rfl, hs⟩
      ·
       rintro ⟨k100, i101, y97, y98, y99⟩ w junk ⟨h, hik, hs⟩
       refine wc_seq (wc_region ?_)
       refine wl_ok (r_lss rfl rfl) (wl_nil (then_normal ?_))
       refine wc_seq (wc_if rfl (fun e105 => ?_) (fun e105 => ?_))
       ·
        refine wc_skip (then_normal ?_)
        rw [upto_lt (by have := of_decide_eq_true e105; omega)] at hs
        generalize hnx104 : upto (wandererref_SourceRead_b87 N y1) (wandererref_SourceRead_k88 N y1 a) (i101 + 1) (((y15.length : Int)).toNat - (k100 + 1)) = nx104 at hs
        have e106r : I64 (i101 + 1) := (by have := of_decide_eq_true e105; have := hli101; exact I64.mk (by omega) (by omega))
        refine wc_seq (wc_block (wc_seq (wc_region (wl_ok (r_move (v := (.int .i64 (i101))) rfl) (wl_ok (r_assign (v := (.int .i64 (i101))) rfl) (wl_nil (then_normal (wc_join (σ := Int × Bool) (inl [90, 91, 92]) (fun ⟨y107, y108⟩ => []) (fun ⟨y107, y108⟩ w => SH w0 M BE w (hset [(1, .rd rStr u3 y1), (2, .blk b6 [u3]), (3, .blk b7 [v14]), (7, .own rFun 43 v14 y97), (14, .blk b83 [(.int .i64 (y107))]), (15, .blk b84 [(.bool (y108))]), (16, .blk b85 [(.func (.func 32) #[] #[(.pointer (some ⟨b83, 0, none⟩)), (.pointer (some ⟨b6, 0, none⟩)), (.pointer (some ⟨b84, 0, none⟩))])]), (17, .blk b86 [(.func (.func 33) #[] #[(.pointer (some ⟨b84, 0, none⟩)), (.pointer (some ⟨b85, 0, none⟩)), (.pointer (some ⟨b7, 0, none⟩))])]), (18, .blk b87 [(.func (.func 38) #[] #[(.pointer (some ⟨b85, 0, none⟩)), (.pointer (some ⟨b84, 0, none⟩)), (.pointer (some ⟨b86, 0, none⟩)), (.pointer (some ⟨b87, 0, none⟩))])])]) ∧ wandererref_SourceRead_j81 N y1 y97 i101 nx104 y107 y108 = some r) ?_ ?_))))))))
        ·
         rintro ⟨y107, y108⟩ w junk ⟨h, hs⟩
         refine wc_join (σ := Int × Bool) (inl [93, 94]) (fun ⟨y109, y110⟩ => []) (fun ⟨y109, y110⟩ w => SH w0 M BE w (hset [(1, .rd rStr u3 y1), (2, .blk b6 [u3]), (3, .blk b7 [v14]), (7, .own rFun 43 v14 y97), (14, .blk b83 [(.int .i64 (y109))]), (15, .blk b84 [(.bool (y110))]), (16, .blk b85 [(.func (.func 32) #[] #[(.pointer (some ⟨b83, 0, none⟩)), (.pointer (some ⟨b6, 0, none⟩)), (.pointer (some ⟨b84, 0, none⟩))])]), (17, .blk b86 [(.func (.func 33) #[] #[(.pointer (some ⟨b84, 0, none⟩)), (.pointer (some ⟨b85, 0, none⟩)), (.pointer (some ⟨b7, 0, none⟩))])]), (18, .blk b87 [(.func (.func 38) #[] #[(.pointer (some ⟨b85, 0, none⟩)), (.pointer (some ⟨b84, 0, none⟩)), (.pointer (some ⟨b86, 0, none⟩)), (.pointer (some ⟨b87, 0, none⟩))])])]) ∧ wandererref_SourceRead_j82 N y1 y97 i101 nx104 y109 y110 = some r) ?_ ?_
         ·
          rintro ⟨y109, y110⟩ w junk ⟨h, hs⟩
          refine wc_join (σ := Int × Bool) (inl [95, 96]) (fun ⟨y111, y112⟩ => []) (fun ⟨y111, y112⟩ w => SH w0 M BE w (hset [(1, .rd rStr u3 y1), (2, .blk b6 [u3]), (3, .blk b7 [v14]), (7, .own rFun 43 v14 y97), (14, .blk b83 [(.int .i64 (y111))]), (15, .blk b84 [(.bool (y112))]), (16, .blk b85 [(.func (.func 32) #[] #[(.pointer (some ⟨b83, 0, none⟩)), (.pointer (some ⟨b6, 0, none⟩)), (.pointer (some ⟨b84, 0, none⟩))])]), (17, .blk b86 [(.func (.func 33) #[] #[(.pointer (some ⟨b84, 0, none⟩)), (.pointer (some ⟨b85, 0, none⟩)), (.pointer (some ⟨b7, 0, none⟩))])]), (18, .blk b87 [(.func (.func 38) #[] #[(.pointer (some ⟨b85, 0, none⟩)), (.pointer (some ⟨b84, 0, none⟩)), (.pointer (some ⟨b86, 0, none⟩)), (.pointer (some ⟨b87, 0, none⟩))])])]) ∧ wandererref_SourceRead_j83 N y1 y97 i101 nx104 y111 y112 = some r) ?_ ?_
          ·
           rintro ⟨y111, y112⟩ w junk ⟨h, hs⟩
           refine wck_held (L := (fun b => b = b83 ∨ b = b84 ∨ ob v14 b)) mixed h fun w h => whk_ok 0 (Keep.refl _ _) rfl want_none (by kernel_rfl) (by kernel_rfl) (by kernel_rfl) (fun w hk => have h := h.loseC3 14 15 7 (by decide) (by decide) (by decide) rfl rfl rfl hk; r_ldB h 3 rfl One22 rfl rfl) (whk_ok 1 (Keep.refl _ _) rfl want_none (by kernel_rfl) (by kernel_rfl) (by kernel_rfl) (fun w hk => r_move (v := (.int .i64 (i101))) rfl) (whk_ok 2 (Keep.refl _ _) rfl want_none (by kernel_rfl) (by kernel_rfl) (by kernel_rfl) (fun w hk => have h := h.loseC3 14 15 7 (by decide) (by decide) (by decide) rfl rfl rfl hk; r_ldB h 18 rfl One57 rfl rfl) ?_))
           obtain ⟨ws123, ws123e⟩ : ∃ x, x = w := ⟨_, rfl⟩
           have hg124 : Keep (fun b => b = b83 ∨ b = b84 ∨ ob v14 b) ws123 w := ws123e ▸ Keep.refl (fun b => b = b83 ∨ b = b84 ∨ ob v14 b) w
           refine whk_at ws123e.symm (whk_eff 3 (by kernel_rfl) rfl want_none ?_)
           replace h := h.pair 14 15 (by decide)
           obtain ⟨lq122x3_1a, lq122x3_1b, lq122x3_1c⟩ := h.lendS 14 (C := (.two (.blk b83 [(.int .i64 (y111))]) (.blk b84 [(.bool (y112))]) : Chunk)) rfl ⟨trivial, trivial⟩
           obtain ⟨yq122x3_2, eq122x3_3, hs⟩ := o_bind hs
           refine w_call fnOk38 rfl rfl (srdBlock_c N _ _ lq122x3_1c (hT.go h.keep) b83 b84 b6 b85 b7 b86 b87 (⟨y111, y112⟩ : RdSt) lq122x3_1a lq122x3_1b u3 y1 (h.rdC 14 1 rfl rfl) v14 y97 (h.ownSr 14 7 (by decide) rfl rfl) (h.blkAt 2 rfl) (fun hb => h.apart 14 2 (by decide) _ hb rfl) (h.blkAt 16 rfl) (fun hb => h.apart 14 16 (by decide) _ hb rfl) (h.blkAt 3 rfl) (fun hb => h.apart 14 3 (by decide) _ hb rfl) (h.blkAt 17 rfl) (fun hb => h.apart 14 17 (by decide) _ hb rfl) (h.blkAt 18 rfl) (fun hb => h.apart 14 18 (by decide) _ hb rfl) 1 (h.aboveG hT (fun _ h => h.elim) 14 (C := (.two (.blk b83 [(.int .i64 (y111))]) (.blk b84 [(.bool (y112))]) : Chunk)) rfl) _ eq122x3_3) ?_
           rintro _ w ⟨kq122x3_6, uq122x3_4, rfl, hq122x3_7, hq122x3_8, gq122x3_5⟩
           refine ⟨_, rfl, ?_⟩
           replace h := h.back 14 (C := (.two (.blk b83 [(.int .i64 (y111))]) (.blk b84 [(.bool (y112))]) : Chunk)) (C' := (.two (.blk b83 [(.int .i64 (yq122x3_2.2.at_))]) (.blk b84 [(.bool (yq122x3_2.2.ok))]) : Chunk)) rfl ⟨trivial, trivial⟩ hq122x3_7 kq122x3_6 hq122x3_8
           replace h := h.knowRd 55 (backRd gq122x3_5)
           replace h := h.unpair 14 15 (by decide) rfl rfl
           replace hg124 := Keep.step hg124 kq122x3_6 (fun _ hx _ => hx.elim (fun hx => .inl (hx)) (fun hx => .inr (.inl (hx))))
           refine wl_nil (whk_back hg124 ?_)
           obtain ⟨xq122x4_1, eq122x4_2, hs⟩ := o_bind hs
           obtain ⟨bq122x4_4, qq122x4_5, iq122x4_3⟩ := h.ixO 7 rfl SliceOf22 rfl (o_idx eq122x4_2).1 (o_idx eq122x4_2).2
           refine whk_ok 4 hg124 rfl want_none (by kernel_rfl) (by kernel_rfl) (by kernel_rfl) (fun w hk => iq122x4_3 _ _ _ _ _ _ _ _ _ rfl rfl) (whk_ok 5 hg124 rfl want_none (by kernel_rfl) (by kernel_rfl) (by kernel_rfl) (fun w hk => r_fieldAddr Fld43x2 rfl) (whk_eff 6 (by kernel_rfl) rfl want_none (w_stOG (a' := { xq122x4_1 with body := yq122x3_2.1 }) h 7 rfl qq122x4_5 rfl (o_idx eq122x4_2).2 One41 rfl rfl (h.rdAt 55 rfl).one rfl (by rintro _ hq; obtain ⟨p2, rfl, q2⟩ := rFun_open hq; exact ⟨_, rfl, (h.rdAt 55 rfl)⟩) fun w h kq122x6_1 => ?_)))
           replace hg124 := Keep.step hg124 kq122x6_1 (fun _ hx _ => .inr (.inr (hx)))
           refine wl_nil (whk_back hg124 (whk_done (by kernel_rfl) (inBlock_normal (then_normal (wc_region (wl_ok (r_add rfl rfl e106r) (wl_ok (r_move (v := (.int .i64 ((i101 + 1)))) rfl) (wl_nil (then_loop ?_)))))))))
           subst hnx104
           exact lend ⟨k100 + 1, i101 + 1, (y97.set (i101).toNat { xq122x4_1 with body := yq122x3_2.1 }), yq122x3_2.2.at_, yq122x3_2.2.ok⟩ ⟨h.cn _, by omega, hs⟩ (by have := of_decide_eq_true e105; dsimp only; omega)
          ·
           refine wc_region (wl_ok (r_ldB h 16 rfl One55 rfl rfl) (w_callIn (args := [(.pointer (some ⟨b83, 0, none⟩)), (.pointer (some ⟨b6, 0, none⟩)), (.pointer (some ⟨b84, 0, none⟩))]) fnOk32 rfl rfl (calls_start (args := [(.pointer (some ⟨b83, 0, none⟩)), (.pointer (some ⟨b6, 0, none⟩)), (.pointer (some ⟨b84, 0, none⟩))]) Tryz.func32 rfl Tryz.ntmps32 (Nat.le_of_ble_eq_true rfl) (wc_seq (wc_region (wl_ok (r_assign (v := (strV [])) rfl) (wl_nil (then_normal (wc_seq (wc_seq (wc_region (wl_ok (r_ldB h 14 rfl One3 rfl rfl) (wl_ok (r_ldB h 2 rfl One45 rfl rfl) (wl_ok (r_len SliceOf45 rfl (h.rdS 1 rfl)) (wl_ok (r_geq rfl rfl) (wl_nil (then_normal (wc_ifb hs rfl (fun c125 hs => ?_) (fun c125 hs => ?_)))))))))))))))))))
           ·
            refine wc_seq (wc_region (w_st1 h 15 [(.bool (false))] rfl One4 rfl rfl rfl rfl rfl fun w h => wl_nil (then_normal (wc_seq (wc_region (wl_ok (r_assign (v := (strV [])) rfl) (wl_nil (then_normal (wc_ret (then_ret (fin1 (v := (strV [])) Tryz.results32 rfl (⟨_, rfl, ?_⟩))))))))))))
            refine wl_nil (then_loop ?_)
            exact jend (y109, false) ⟨h.cn _, hs⟩
           ·
            refine wc_skip (then_normal (wc_seq (wc_region (wl_ok (r_ldB h 14 rfl One3 rfl rfl) ?_))))
            obtain ⟨a126, hs⟩ := o_grd hs
            refine wl_ok (r_add rfl rfl a126) (w_st1 h 14 [(.int .i64 ((y109 + 1)))] rfl One3 rfl rfl rfl rfl rfl fun w h => wl_nil (then_normal (wc_seq (wc_region (wl_ok (r_ldB h 2 rfl One45 rfl rfl) (wl_ok (r_ldB h 14 rfl One3 rfl rfl) ?_))))))
            obtain ⟨a127, hs⟩ := o_grd hs
            refine wl_ok (r_sub rfl rfl a127) ?_
            obtain ⟨x128, e129, hs⟩ := o_bind hs
            obtain ⟨b131, o132, cs133, h, r134, i130⟩ := h.ixR 1 115 rfl SliceOf45 rfl (o_idx e129).1 (o_idx e129).2
            obtain rfl := r134
            refine wl_ok (i130 _ _ _ _ _ _ _ _ _ rfl rfl) (wl_ok (r_ldP (k := 0) h 115 rfl One9 rfl rfl) (wl_ok (r_assign (v := (strV x128)) rfl) (wl_nil (then_normal (wc_ret (fin1 (v := (strV x128)) Tryz.results32 rfl (⟨_, rfl, ?_⟩)))))))
            refine wl_nil (then_loop ?_)
            exact jend ((y109 + 1), y110) ⟨h.cn _, hs⟩
         ·
          refine wc_region (wl_ok (r_ldB h 16 rfl One55 rfl rfl) (w_callIn (args := [(.pointer (some ⟨b83, 0, none⟩)), (.pointer (some ⟨b6, 0, none⟩)), (.pointer (some ⟨b84, 0, none⟩))]) fnOk32 rfl rfl (calls_start (args := [(.pointer (some ⟨b83, 0, none⟩)), (.pointer (some ⟨b6, 0, none⟩)), (.pointer (some ⟨b84, 0, none⟩))]) Tryz.func32 rfl Tryz.ntmps32 (Nat.le_of_ble_eq_true rfl) (wc_seq (wc_region (wl_ok (r_assign (v := (strV [])) rfl) (wl_nil (then_normal (wc_seq (wc_seq (wc_region (wl_ok (r_ldB h 14 rfl One3 rfl rfl) (wl_ok (r_ldB h 2 rfl One45 rfl rfl) (wl_ok (r_len SliceOf45 rfl (h.rdS 1 rfl)) (wl_ok (r_geq rfl rfl) (wl_nil (then_normal (wc_ifb hs rfl (fun c135 hs => ?_) (fun c135 hs => ?_)))))))))))))))))))
          ·
           refine wc_seq (wc_region (w_st1 h 15 [(.bool (false))] rfl One4 rfl rfl rfl rfl rfl fun w h => wl_nil (then_normal (wc_seq (wc_region (wl_ok (r_assign (v := (strV [])) rfl) (wl_nil (then_normal (wc_ret (then_ret (fin1 (v := (strV [])) Tryz.results32 rfl (⟨_, rfl, ?_⟩))))))))))))
           refine wl_nil (then_loop ?_)
           exact jend (y107, false) ⟨h.cn _, hs⟩
          ·
           refine wc_skip (then_normal (wc_seq (wc_region (wl_ok (r_ldB h 14 rfl One3 rfl rfl) ?_))))
           obtain ⟨a136, hs⟩ := o_grd hs
           refine wl_ok (r_add rfl rfl a136) (w_st1 h 14 [(.int .i64 ((y107 + 1)))] rfl One3 rfl rfl rfl rfl rfl fun w h => wl_nil (then_normal (wc_seq (wc_region (wl_ok (r_ldB h 2 rfl One45 rfl rfl) (wl_ok (r_ldB h 14 rfl One3 rfl rfl) ?_))))))
           obtain ⟨a137, hs⟩ := o_grd hs
           refine wl_ok (r_sub rfl rfl a137) ?_
           obtain ⟨x138, e139, hs⟩ := o_bind hs
           obtain ⟨b141, o142, cs143, h, r144, i140⟩ := h.ixR 1 116 rfl SliceOf45 rfl (o_idx e139).1 (o_idx e139).2
           obtain rfl := r144
           refine wl_ok (i140 _ _ _ _ _ _ _ _ _ rfl rfl) (wl_ok (r_ldP (k := 0) h 116 rfl One9 rfl rfl) (wl_ok (r_assign (v := (strV x138)) rfl) (wl_nil (then_normal (wc_ret (fin1 (v := (strV x138)) Tryz.results32 rfl (⟨_, rfl, ?_⟩)))))))
           refine wl_nil (then_loop ?_)
           exact jend ((y107 + 1), y108) ⟨h.cn _, hs⟩
        ·
         refine wc_join (σ := Bool × Int × Bool) (inl [90, 91, 92]) (fun ⟨x145, y146, y147⟩ => [(92, (.bool (x145)))]) (fun ⟨x145, y146, y147⟩ w => SH w0 M BE w (hset [(1, .rd rStr u3 y1), (2, .blk b6 [u3]), (3, .blk b7 [v14]), (7, .own rFun 43 v14 y97), (14, .blk b83 [(.int .i64 (y146))]), (15, .blk b84 [(.bool (y147))]), (16, .blk b85 [(.func (.func 32) #[] #[(.pointer (some ⟨b83, 0, none⟩)), (.pointer (some ⟨b6, 0, none⟩)), (.pointer (some ⟨b84, 0, none⟩))])]), (17, .blk b86 [(.func (.func 33) #[] #[(.pointer (some ⟨b84, 0, none⟩)), (.pointer (some ⟨b85, 0, none⟩)), (.pointer (some ⟨b7, 0, none⟩))])]), (18, .blk b87 [(.func (.func 38) #[] #[(.pointer (some ⟨b85, 0, none⟩)), (.pointer (some ⟨b84, 0, none⟩)), (.pointer (some ⟨b86, 0, none⟩)), (.pointer (some ⟨b87, 0, none⟩))])])]) ∧ wandererref_SourceRead_j84 N y1 y97 i101 nx104 x145 y146 y147 = some r) ?_ ?_
         ·
          rintro ⟨x145, y146, y147⟩ w junk ⟨h, hs⟩
          refine wc_ifb hs rfl (fun c148 hs => ?_) (fun c148 hs => ?_)
          ·
           refine wc_region (w_st1 h 15 [(.bool (false))] rfl One4 rfl rfl rfl rfl rfl fun w h => wl_nil (then_loop ?_))
           exact jend (y146, false) ⟨h.cn _, hs⟩
          ·
           refine wc_skip (then_loop ?_)
           exact jend (y146, y147) ⟨h.cn _, hs⟩
         ·
          refine wc_region (wl_ok (r_ldB h 16 rfl One55 rfl rfl) (w_callIn (args := [(.pointer (some ⟨b83, 0, none⟩)), (.pointer (some ⟨b6, 0, none⟩)), (.pointer (some ⟨b84, 0, none⟩))]) fnOk32 rfl rfl (calls_start (args := [(.pointer (some ⟨b83, 0, none⟩)), (.pointer (some ⟨b6, 0, none⟩)), (.pointer (some ⟨b84, 0, none⟩))]) Tryz.func32 rfl Tryz.ntmps32 (Nat.le_of_ble_eq_true rfl) (wc_seq (wc_region (wl_ok (r_assign (v := (strV [])) rfl) (wl_nil (then_normal (wc_seq (wc_seq (wc_region (wl_ok (r_ldB h 14 rfl One3 rfl rfl) (wl_ok (r_ldB h 2 rfl One45 rfl rfl) (wl_ok (r_len SliceOf45 rfl (h.rdS 1 rfl)) (wl_ok (r_geq rfl rfl) (wl_nil (then_normal (wc_ifb hs rfl (fun c149 hs => ?_) (fun c149 hs => ?_)))))))))))))))))))
          ·
           refine wc_seq (wc_region (w_st1 h 15 [(.bool (false))] rfl One4 rfl rfl rfl rfl rfl fun w h => wl_nil (then_normal (wc_seq (wc_region (wl_ok (r_assign (v := (strV [])) rfl) (wl_nil (then_normal (wc_ret (then_ret (fin1 (v := (strV [])) Tryz.results32 rfl (⟨_, rfl, ?_⟩))))))))))))
           refine wl_ok (r_neqs rfl rfl) (wl_nil (then_loop ?_))
           exact jend (true, y98, false) ⟨h.cn _, hs⟩
          ·
           refine wc_skip (then_normal (wc_seq (wc_region (wl_ok (r_ldB h 14 rfl One3 rfl rfl) ?_))))
           obtain ⟨a150, hs⟩ := o_grd hs
           refine wl_ok (r_add rfl rfl a150) (w_st1 h 14 [(.int .i64 ((y98 + 1)))] rfl One3 rfl rfl rfl rfl rfl fun w h => wl_nil (then_normal (wc_seq (wc_region (wl_ok (r_ldB h 2 rfl One45 rfl rfl) (wl_ok (r_ldB h 14 rfl One3 rfl rfl) ?_))))))
           obtain ⟨a151, hs⟩ := o_grd hs
           refine wl_ok (r_sub rfl rfl a151) ?_
           obtain ⟨x152, e153, hs⟩ := o_bind hs
           obtain ⟨b155, o156, cs157, h, r158, i154⟩ := h.ixR 1 117 rfl SliceOf45 rfl (o_idx e153).1 (o_idx e153).2
           obtain rfl := r158
           refine wl_ok (i154 _ _ _ _ _ _ _ _ _ rfl rfl) (wl_ok (r_ldP (k := 0) h 117 rfl One9 rfl rfl) (wl_ok (r_assign (v := (strV x152)) rfl) (wl_nil (then_normal (wc_ret (fin1 (v := (strV x152)) Tryz.results32 rfl (⟨_, rfl, ?_⟩)))))))
           refine wl_ok (r_neqs rfl rfl) (wl_nil (then_loop ?_))
           exact jend (decide ((x152 : Str) ≠ [102, 117, 110]), (y98 + 1), y99) ⟨h.cn _, hs⟩
       ·
        rw [upto_ge (by have := of_decide_eq_false e105; omega)] at hs
        refine wc_exit (then_exit (then_exit (inBlock_eq (then_normal (wc_seq (wc_join (σ := Bool) (inl [104, 105, 106, 107, 108, 109, 110, 111, 112, 113, 114, 115, 116, 117, 118, 119, 120, 121, 122]) (fun x159 => [(122, (.bool (x159)))]) (fun x159 w => SH w0 M BE w (hset [(3, .blk b7 [v14]), (7, .own rFun 43 v14 y97)]) ∧ wandererref_SourceRead_j86 y97 x159 = some r) ?_ ?_))))))
        ·
         rintro x159 w junk ⟨h, hs⟩
         refine wc_ifb hs rfl (fun c160 hs => ?_) (fun c160 hs => ?_)
         ·
          refine wc_seq (wc_region (wl_ok (r_assign (v := (.slice none 0 0)) rfl) (wl_ok (r_assign (v := (.int .i64 (1))) rfl) (wl_nil (then_normal (wc_ret (then_ret (fin2 (v1 := (.slice none 0 0)) (v2 := (.int .i64 (1))) Tryz.results10 rfl rfl ?_))))))))
          obtain rfl := Option.some.inj hs
          exact ⟨h.grown, _, rfl, OwnSl.nil, fresh_nil⟩
         ·
          refine wc_skip (then_normal (wc_seq (wc_region (wl_ok (r_ldB h 3 rfl One22 rfl rfl) (wl_ok (r_assign (v := v14) rfl) (wl_ok (r_assign (v := (.int .i64 (0))) rfl) (wl_nil (then_normal (wc_ret (fin2 (v1 := v14) (v2 := (.int .i64 (0))) Tryz.results10 rfl rfl ?_))))))))))
          obtain rfl := Option.some.inj hs
          exact ⟨h.grown, _, rfl, (h.outOwn 7 rfl).1, (h.outOwn 7 rfl).2⟩
        ·
         refine wc_region (wl_ok (r_ldB h 15 rfl One4 rfl rfl) (wl_ok (r_notb rfl) (wl_ok (r_move (v := (.bool ((!y99)))) rfl) (wl_gd0 rfl rfl (fun q => r_ldB h 14 rfl One3 rfl rfl) (wl_gd0 rfl rfl (fun q => r_ldB h 2 rfl One45 rfl rfl) (wl_gd0 rfl rfl (fun q => r_len SliceOf45 (gvt q) (h.rdS 1 rfl)) (wl_gd0 rfl rfl (fun q => r_lss (gvt q) (gvt q)) (wl_ok (r_por rfl rfl evc) (wl_ok (r_move (v := (.bool (((!y99) || decide ((y98 : Int) < (y1.length : Int)))))) rfl) (c_split (b := ((!y99) || decide ((y98 : Int) < (y1.length : Int)))) hs (fun c161 hs => ?_) (fun c161 hs => ?_)))))))))))
         ·
          refine wl_off (b' := true) rfl (congrArg Value.bool c161) rfl (wl_off (b' := true) rfl (congrArg Value.bool c161) rfl (wl_off (b' := true) rfl (congrArg Value.bool c161) rfl (wl_ok (r_pick (b := true) (v := (.bool (true))) (congrArg Value.bool c161) rfl) (wl_ok (r_move (v := (.bool (true))) rfl) (wl_off (b' := true) rfl rfl rfl (wl_off (b' := true) rfl rfl rfl (wl_off (b' := true) rfl rfl rfl (wl_off (b' := true) rfl rfl rfl (wl_ok (r_pick (b := true) (v := (.bool (true))) rfl rfl) (wl_nil (then_loop ?_)))))))))))
          exact jend true ⟨h.cn _, hs⟩
         ·
          refine wl_on rfl (congrArg Value.bool c161) (wl_ok (r_ldB h 3 rfl One22 rfl rfl) (wl_on rfl (congrArg Value.bool c161) ?_))
          obtain ⟨y162, e163, hs⟩ := o_bind hs
          refine w_call fnOk7 rfl rfl (wandererref_CheckSource_c N _ _ h.lt v14 y97 (h.ownS 7 rfl) _ e163) ?_
          rintro _ w ⟨k164, rfl⟩
          refine ⟨_, rfl, ?_⟩
          replace h := h.grow k164
          refine wl_on rfl (congrArg Value.bool c161) (wl_ok (r_neq rfl rfl) (wl_ok (r_pick (b := false) (v := (.bool (decide ((y162 : Int) ≠ 0)))) (congrArg Value.bool c161) rfl) (wl_ok (r_move (v := (.bool (decide ((y162 : Int) ≠ 0)))) rfl) (c_split (b := decide ((y162 : Int) ≠ 0)) hs (fun c165 hs => ?_) (fun c165 hs => ?_)))))
          ·
           refine wl_off (b' := true) rfl (congrArg Value.bool c165) rfl (wl_off (b' := true) rfl (congrArg Value.bool c165) rfl (wl_off (b' := true) rfl (congrArg Value.bool c165) rfl (wl_off (b' := true) rfl (congrArg Value.bool c165) rfl (wl_ok (r_pick (b := true) (v := (.bool (true))) (congrArg Value.bool c165) rfl) (wl_nil (then_loop ?_))))))
           exact jend true ⟨h.cn _, hs⟩
          ·
           refine wl_on rfl (congrArg Value.bool c165) (wl_ok (r_ldB h 3 rfl One22 rfl rfl) (wl_on rfl (congrArg Value.bool c165) ?_))
           obtain ⟨y166, e167, hs⟩ := o_bind hs
           refine w_call fnOk8 rfl rfl (wandererref_SourceText_c N _ _ h.lt (hT.go h.keep) v14 y97 (h.ownS 7 rfl) _ e167) ?_
           rintro _ w ⟨k168, rfl⟩
           refine ⟨_, rfl, ?_⟩
           replace h := h.grow k168
           refine wl_on rfl (congrArg Value.bool c165) (wl_ok (r_move (v := (strV a)) rfl) (wl_on rfl (congrArg Value.bool c165) (wl_ok (r_neqs rfl rfl) (wl_ok (r_pick (b := false) (v := (.bool (decide ((y166 : Str) ≠ a)))) (congrArg Value.bool c165) rfl) (wl_nil (then_loop ?_))))))
           exact jend (decide ((y166 : Str) ≠ a)) ⟨h.cn _, hs⟩
def slices_Equal_Tok_b3 (a : List Tok) (b : List Tok) (i3 : Int) (s : Unit) (nx6 : Unit → Option Bool) : Option Bool :=
  (idx a i3).bind fun x9 => (idx b i3).bind fun x16 => bif !(decide (x9.kind = x16.kind) && decide (x9.n = x16.n)) then some false else nx6 ()
def slices_Equal_Tok_k4 (s : Unit) : Option Bool :=
  some true
def slices_Equal_Tok (a : List Tok) (b : List Tok) : Option Bool :=
  bif decide (((a.length : Int) : Int) ≠ (b.length : Int)) then some false else upto (slices_Equal_Tok_b3 a b) slices_Equal_Tok_k4 0 ((a.length : Int)).toNat ()
theorem slices_Equal_Tok_c (w0 : World) (M : BS) (hM : ∀ b, M b → b < w0.heap.size) (va : Value) (a : List Tok) (ha : Rd2 rTok w0 BE M va a) (vb : Value) (b : List Tok) (hb : Rd2 rTok w0 BE M vb b) (r : Bool) (hs : slices_Equal_Tok a b = some r) :
    Calls Tryz.prog 77 #[va, vb] w0 (fun e w' => Grow w0 w' ∧ e = .returned (.bool r)) := by
 refine calls_start (args := [va, vb]) Tryz.func77 rfl Tryz.ntmps77 (Nat.le_of_ble_eq_true rfl) ?_
 have h := SH.init hM
 replace h := h.argSr 1 ha none_own
 replace h := h.argSr 2 hb (hupd_own_sr none_own)
 have hl_a := ha.len_le
 have hl_b := hb.len_le
 refine wc_seq (wc_region (wl_ok (r_assign (v := (.bool (false))) rfl) (wl_nil (then_normal (wc_seq (wc_seq (wc_region (wl_ok (r_move (v := va) rfl) (wl_ok (r_len SliceOf63 rfl (h.srS 1 rfl)) (wl_ok (r_move (v := vb) rfl) (wl_ok (r_len SliceOf63 rfl (h.srS 2 rfl)) (wl_ok (r_neq rfl rfl) (wl_nil (then_normal (wc_ifb hs rfl (fun c1 hs => ?_) (fun c1 hs => ?_))))))))))))))))
 ·
  refine wc_seq (wc_region (wl_ok (r_assign (v := (.bool (false))) rfl) (wl_nil (then_normal (wc_ret (then_ret (fin1 (v := (.bool (false))) Tryz.results77 rfl ?_)))))))
  obtain rfl := Option.some.inj hs
  exact ⟨h.grown, rfl⟩
 ·
  refine wc_skip (then_normal (wc_seq (wc_seq (wc_region (wl_ok (r_move (v := va) rfl) (wl_ok (r_len SliceOf63 rfl (h.srS 1 rfl)) (wl_ok (r_move (v := (.int .i64 (0))) rfl) (wl_nil (then_normal (wc_block ?_))))))))))
  have hli3 := (h.srS 1 rfl).len_le
  refine wc_lp (σ := Nat × Int) (inl [4, 5, 13, 14, 15, 16, 17, 18, 19, 20, 21, 22, 23, 24, 25]) (fun ⟨k2, i3⟩ => [(13, (.int .i64 (i3)))]) (fun ⟨k2, i3⟩ w => SH w0 M BE w (hset [(1, .sr rTok va a), (2, .sr rTok vb b)]) ∧ i3 = (k2 : Int) ∧ upto (slices_Equal_Tok_b3 a b) slices_Equal_Tok_k4 i3 (((a.length : Int)).toNat - k2) () = some r) (fun ⟨k2, i3⟩ => ((a.length : Int)).toNat - k2) ⟨0, 0⟩ ⟨rfl, trivial⟩ ?_ ?_
  ·
   exact ⟨h.cn _, rfl, hs⟩
  ·
   rintro ⟨k2, i3⟩ w junk ⟨h, hik, hs⟩
   refine wc_seq (wc_region ?_)
   refine wl_ok (r_lss rfl rfl) (wl_nil (then_normal ?_))
   refine wc_seq (wc_if rfl (fun e7 => ?_) (fun e7 => ?_))
   ·
    refine wc_skip (then_normal ?_)
    rw [upto_lt (by have := of_decide_eq_true e7; omega)] at hs
    generalize hnx6 : upto (slices_Equal_Tok_b3 a b) slices_Equal_Tok_k4 (i3 + 1) (((a.length : Int)).toNat - (k2 + 1)) = nx6 at hs
    have e8r : I64 (i3 + 1) := (by have := of_decide_eq_true e7; have := hli3; exact I64.mk (by omega) (by omega))
    refine wc_seq (wc_block (wc_seq (wc_region (wl_ok (r_move (v := (.int .i64 (i3))) rfl) (wl_ok (r_assign (v := (.int .i64 (i3))) rfl) (wl_nil (then_normal (wc_seq (wc_still mixed (by kernel_rfl) h fun w h => wk_ok (r_move (v := va) rfl) (wk_ok (r_move (v := (.int .i64 (i3))) rfl) ?_))))))))))
    obtain ⟨x9, e10, hs⟩ := o_bind hs
    obtain ⟨b12, o13, cs14, h, r15, i11⟩ := h.ixS 1 3 rfl SliceOf63 rfl (o_idx e10).1 (o_idx e10).2
    obtain rfl := r15
    refine wk_ok (i11 _ _ _ _ _ _ _ _ _ rfl rfl) (wk_ok (r_ldPN (k := 0) (vs := [(.int .i64 (x9.kind)), (.int .i64 (x9.n))]) h 3 rfl Many71 rfl rfl rfl (Nat.le_of_ble_eq_true rfl)) (wk_ok (r_move (v := vb) rfl) (wk_ok (r_move (v := (.int .i64 (i3))) rfl) ?_)))
    obtain ⟨x16, e17, hs⟩ := o_bind hs
    obtain ⟨b19, o20, cs21, h, r22, i18⟩ := h.ixS 2 4 rfl SliceOf63 rfl (o_idx e17).1 (o_idx e17).2
    obtain rfl := r22
    refine wk_ok (i18 _ _ _ _ _ _ _ _ _ rfl rfl) (wk_ok (r_ldPN (k := 0) (vs := [(.int .i64 (x16.kind)), (.int .i64 (x16.n))]) h 4 rfl Many71 rfl rfl rfl (Nat.le_of_ble_eq_true rfl)) (wk_ok (r_neqP PairI71 rfl rfl) (wk_end (then_normal (wc_ifb hs rfl (fun c23 hs => ?_) (fun c23 hs => ?_))))))
    ·
     refine wc_seq (wc_region (wl_ok (r_assign (v := (.bool (false))) rfl) (wl_nil (then_normal (wc_ret (inBlock_ret (then_ret (then_ret (inBlock_ret (then_ret (fin1 (v := (.bool (false))) Tryz.results77 rfl ?_)))))))))))
     obtain rfl := Option.some.inj hs
     exact ⟨h.grown, rfl⟩
    ·
     refine wc_skip (inBlock_normal (then_normal (wc_region (wl_ok (r_add rfl rfl e8r) (wl_ok (r_move (v := (.int .i64 ((i3 + 1)))) rfl) (wl_nil (then_loop ?_)))))))
     subst hnx6
     exact lend ⟨k2 + 1, i3 + 1⟩ ⟨h.cn _, by omega, hs⟩ (by have := of_decide_eq_true e7; dsimp only; omega)
   ·
    rw [upto_ge (by have := of_decide_eq_false e7; omega)] at hs
    refine wc_exit (then_exit (then_exit (inBlock_eq (then_normal (wc_seq (wc_region (wl_ok (r_assign (v := (.bool (true))) rfl) (wl_nil (then_normal (wc_ret (fin1 (v := (.bool (true))) Tryz.results77 rfl ?_)))))))))))
    obtain rfl := Option.some.inj hs
    exact ⟨h.grown, rfl⟩
def wandererref_sameStmts_j10 (nx6 : Unit → Option Bool) (x39 : Bool) : Option Bool :=
  bif x39 then some false else nx6 ()
def wandererref_sameStmts_b11 (F0 : List GStmt → List GStmt → Option Bool) (b : List GStmt) (a : List GStmt) (i3 : Int) (x4 : GStmt) (s : Unit) (nx6 : Unit → Option Bool) : Option Bool :=
  (idx b i3).bind fun x23 => bif (decide ((x4.kind : Int) ≠ x23.kind) || decide ((x4.n : Int) ≠ x23.n)) then wandererref_sameStmts_j10 nx6 true else (slices_Equal_Tok x4.e x23.e).bind fun y42 => bif (!y42) then wandererref_sameStmts_j10 nx6 true else (slices_Equal_Tok x4.f x23.f).bind fun y46 => bif (!y46) then wandererref_sameStmts_j10 nx6 true else (F0 x4.a x23.a).bind fun y50 => bif (!y50) then wandererref_sameStmts_j10 nx6 true else (F0 x4.b x23.b).bind fun y54 => wandererref_sameStmts_j10 nx6 (!y54)
def wandererref_sameStmts_k12 (s : Unit) : Option Bool :=
  some true
def wandererref_sameStmts_r (F0 : List GStmt → List GStmt → Option Bool) (a : List GStmt) (b : List GStmt) : Option Bool :=
  bif decide (((a.length : Int) : Int) ≠ (b.length : Int)) then some false else eachI (wandererref_sameStmts_b11 F0 b a) wandererref_sameStmts_k12 0 a ()
def wandererref_sameStmts : Nat → List GStmt → List GStmt → Option Bool
  | 0 => fun _ _ => none
  | N + 1 => wandererref_sameStmts_r (wandererref_sameStmts N)
theorem wandererref_sameStmts_c : ∀ (N : Nat) (w0 : World) (M : BS) (hM : ∀ b, M b → b < w0.heap.size) (va : Value) (a : List GStmt) (ha : Rd2 rStmt w0 BE M va a) (vb : Value) (b : List GStmt) (hb : Rd2 rStmt w0 BE M vb b) (r : Bool) (hs : wandererref_sameStmts N a b = some r),
    Calls Tryz.prog 43 #[va, vb] w0 (fun e w' => Grow w0 w' ∧ e = .returned (.bool r)) := by
  intro N
  induction N with
  | zero => intro w0 M hM va a ha vb b hb r hs; cases hs
  | succ N ih =>
  intro w0 M hM va a ha vb b hb r hs
  replace hs : wandererref_sameStmts_r (wandererref_sameStmts N) a b = some r := hs
  generalize wandererref_sameStmts N = F0 at hs ih
  refine calls_start (args := [va, vb]) Tryz.func43 rfl Tryz.ntmps43 (Nat.le_of_ble_eq_true rfl) ?_
  have h := SH.init hM
  replace h := h.argSr 1 ha none_own
  replace h := h.argSr 2 hb (hupd_own_sr none_own)
  have hl_a := ha.len_le
  have hl_b := hb.len_le
  refine wc_seq (wc_region (wl_ok (r_assign (v := (.bool (false))) rfl) (wl_nil (then_normal (wc_seq (wc_seq (wc_region (wl_ok (r_move (v := va) rfl) (wl_ok (r_len SliceOf41 rfl (h.srS 1 rfl)) (wl_ok (r_move (v := vb) rfl) (wl_ok (r_len SliceOf41 rfl (h.srS 2 rfl)) (wl_ok (r_neq rfl rfl) (wl_nil (then_normal (wc_ifb hs rfl (fun c1 hs => ?_) (fun c1 hs => ?_))))))))))))))))
  ·
   refine wc_seq (wc_region (wl_ok (r_assign (v := (.bool (false))) rfl) (wl_nil (then_normal (wc_ret (then_ret (fin1 (v := (.bool (false))) Tryz.results43 rfl ?_)))))))
   obtain rfl := Option.some.inj hs
   exact ⟨h.grown, rfl⟩
  ·
   refine wc_skip (then_normal (wc_seq (wc_seq (wc_region (wl_ok (r_move (v := va) rfl) (wl_ok (r_len SliceOf41 rfl (h.srS 1 rfl)) (wl_ok (r_move (v := (.int .i64 (0))) rfl) (wl_nil (then_normal (wc_block (wc_lp (σ := Nat × Int) (inl [4, 5, 6, 7, 15, 16, 17, 18, 19, 20, 21, 22, 23, 24, 25, 26, 27, 28, 29, 30, 31, 32, 33, 34, 35, 36, 37, 38, 39, 40, 41, 42, 43, 44, 45, 46, 47, 48, 49, 50, 51, 52, 53, 54, 55, 56, 57, 58, 59, 60, 61, 62, 63, 64, 65, 66, 67, 68]) (fun ⟨k2, i3⟩ => [(15, (.int .i64 (i3)))]) (fun ⟨k2, i3⟩ w => SH w0 M BE w (hset [(1, .sr rStmt va a), (2, .sr rStmt vb b)]) ∧ i3 = (k2 : Int) ∧ eachI (wandererref_sameStmts_b11 F0 b a) wandererref_sameStmts_k12 i3 (a.drop k2) () = some r) (fun ⟨k2, i3⟩ => a.length - k2) ⟨0, 0⟩ ⟨rfl, trivial⟩ ?_ ?_)))))))))))
   ·
    exact ⟨h.cn _, rfl, hs⟩
   ·
    rintro ⟨k2, i3⟩ w junk ⟨h, hik, hs⟩
    refine wc_seq (wc_region ?_)
    refine wl_ok (r_lss rfl rfl) (wl_nil (then_normal ?_))
    refine wc_seq (wc_if rfl (fun e7 => ?_) (fun e7 => ?_))
    ·
     refine wc_skip (then_normal ?_)
     obtain ⟨x4, e8a, e8b⟩ := drop_lt (hik ▸ e7)
     rw [e8b, eachI_cons] at hs
     generalize hnx6 : eachI (wandererref_sameStmts_b11 F0 b a) wandererref_sameStmts_k12 (i3 + 1) (a.drop (k2 + 1)) = nx6 at hs
     have e8r := nat_rng ((h.srS 1 rfl)).len_le hik e7
     refine wc_seq (wc_block (wc_seq (wc_region (wl_ok (r_move (v := (.int .i64 (i3))) rfl) ?_))))
     obtain ⟨b10, o11, cs12, h, r13, i9⟩ := h.ixS 1 3 rfl SliceOf41 rfl (nat_nn hik) (get_nat hik e8a)
     obtain ⟨u14, u16, u18, u20, rfl, g15, g17, g19, g21⟩ := rStmt_open r13
     replace h := h.knowRd 4 g15.up
     replace h := h.knowRd 5 g17.up.up
     replace h := h.knowRd 6 g19.up.up.up
     replace h := h.knowRd 7 g21.up.up.up.up
     refine wl_ok (i9 _ _ _ _ _ _ _ _ _ rfl rfl) (wl_ok (r_ldPN (k := 0) (vs := [(.int .i64 (x4.kind)), (.int .i64 (x4.n)), u14, u16, u18, u20]) h 3 rfl Many65 rfl rfl rfl (Nat.le_of_ble_eq_true rfl)) (w_allocN h 8 Many65 fun w b22 h => wl_ok (r_assign (v := (.int .i64 (i3))) rfl) (w_stN (vs := [(.int .i64 (x4.kind)), (.int .i64 (x4.n)), u14, u16, u18, u20]) h 8 [(.int .i64 (x4.kind)), (.int .i64 (x4.n)), u14, u16, u18, u20] rfl Many65 rfl rfl rfl rfl rfl (ones_cons rfl (ones_cons rfl (ones_cons (h.rdAt 4 rfl).one (ones_cons (h.rdAt 5 rfl).one (ones_cons (h.rdAt 6 rfl).one (ones_cons (h.rdAt 7 rfl).one ones_nil)))))) fun w h => wl_nil (then_normal (wc_seq (wc_region (wl_ok (r_move (v := vb) rfl) (wl_ok (r_move (v := (.int .i64 (i3))) rfl) ?_))))))))
     obtain ⟨x23, e24, hs⟩ := o_bind hs
     obtain ⟨b26, o27, cs28, h, r29, i25⟩ := h.ixS 2 9 rfl SliceOf41 rfl (o_idx e24).1 (o_idx e24).2
     obtain ⟨u30, u32, u34, u36, rfl, g31, g33, g35, g37⟩ := rStmt_open r29
     replace h := h.knowRd 10 g31.up
     replace h := h.knowRd 11 g33.up.up
     replace h := h.knowRd 12 g35.up.up.up
     replace h := h.knowRd 13 g37.up.up.up.up
     refine wl_ok (i25 _ _ _ _ _ _ _ _ _ rfl rfl) (wl_ok (r_ldPN (k := 0) (vs := [(.int .i64 (x23.kind)), (.int .i64 (x23.n)), u30, u32, u34, u36]) h 9 rfl Many65 rfl rfl rfl (Nat.le_of_ble_eq_true rfl)) (w_allocN h 14 Many65 fun w b38 h => w_stN (vs := [(.int .i64 (x23.kind)), (.int .i64 (x23.n)), u30, u32, u34, u36]) h 14 [(.int .i64 (x23.kind)), (.int .i64 (x23.n)), u30, u32, u34, u36] rfl Many65 rfl rfl rfl rfl rfl (ones_cons rfl (ones_cons rfl (ones_cons (h.rdAt 10 rfl).one (ones_cons (h.rdAt 11 rfl).one (ones_cons (h.rdAt 12 rfl).one (ones_cons (h.rdAt 13 rfl).one ones_nil)))))) fun w h => wl_nil (then_normal (wc_join (σ := Bool) (inl [24, 25, 26, 27, 28, 29, 30, 31, 32, 33, 34, 35, 36, 37, 38, 39, 40, 41, 42, 43, 44, 45, 46, 47, 48, 49, 50, 51, 52, 53, 54, 55, 56, 57, 58, 59, 60, 61, 62, 63, 64, 65, 66, 67]) (fun x39 => [(30, (gv (decide ((x4.kind : Int) ≠ x23.kind) == false) (.pointer (some ⟨b22, 1, none⟩)))), (31, (gv (decide ((x4.kind : Int) ≠ x23.kind) == false) (.int .i64 (x4.n)))), (32, (gv (decide ((x4.kind : Int) ≠ x23.kind) == false) (.pointer (some ⟨b38, 1, none⟩)))), (33, (gv (decide ((x4.kind : Int) ≠ x23.kind) == false) (.int .i64 (x23.n)))), (34, (gv (decide ((x4.kind : Int) ≠ x23.kind) == false) (.bool (decide ((x4.n : Int) ≠ x23.n))))), (67, (.bool (x39)))]) (fun x39 w => SH w0 M BE w (hset [(1, .sr rStmt va a), (2, .sr rStmt vb b), (4, .rd rTok u14 x4.e), (5, .rd rTok u16 x4.f), (6, .rd rStmt u18 x4.a), (7, .rd rStmt u20 x4.b), (8, .blk b22 [(.int .i64 (x4.kind)), (.int .i64 (x4.n)), u14, u16, u18, u20]), (10, .rd rTok u30 x23.e), (11, .rd rTok u32 x23.f), (12, .rd rStmt u34 x23.a), (13, .rd rStmt u36 x23.b), (14, .blk b38 [(.int .i64 (x23.kind)), (.int .i64 (x23.n)), u30, u32, u34, u36])]) ∧ wandererref_sameStmts_j10 nx6 x39 = some r) ?_ ?_))))
     ·
      rintro x39 w junk ⟨h, hs⟩
      refine wc_ifb hs rfl (fun c40 hs => ?_) (fun c40 hs => ?_)
      ·
       refine wc_seq (wc_region (wl_ok (r_assign (v := (.bool (false))) rfl) (wl_nil (then_normal (wc_ret (inBlock_ret (then_ret (then_ret (inBlock_ret (then_ret (fin1 (v := (.bool (false))) Tryz.results43 rfl ?_)))))))))))
       obtain rfl := Option.some.inj hs
       exact ⟨h.grown, rfl⟩
      ·
       refine wc_skip (inBlock_normal (then_normal (wc_region (wl_ok (r_add rfl rfl e8r) (wl_ok (r_move (v := (.int .i64 ((i3 + 1)))) rfl) (wl_nil (then_loop ?_)))))))
       subst hnx6
       exact lend ⟨k2 + 1, i3 + 1⟩ ⟨h.cn _, by omega, hs⟩ (by have := of_decide_eq_true e7; dsimp only; omega)
     ·
      refine wc_region (wl_ok (r_fieldAddr Fld65x0 rfl) (wl_ok (r_ldB h 8 rfl One3 rfl rfl) (wl_ok (r_fieldAddr Fld65x0 rfl) (wl_ok (r_ldB h 14 rfl One3 rfl rfl) (wl_ok (r_neq rfl rfl) (wl_ok (r_move (v := (.bool (decide ((x4.kind : Int) ≠ x23.kind)))) rfl) (wl_gd0 rfl rfl (fun q => r_fieldAddr Fld65x1 rfl) (wl_gd0 rfl rfl (fun q => r_ldB h 8 rfl One3 (gvt q) rfl) (wl_gd0 rfl rfl (fun q => r_fieldAddr Fld65x1 rfl) (wl_gd0 rfl rfl (fun q => r_ldB h 14 rfl One3 (gvt q) rfl) (wl_gd0 rfl rfl (fun q => r_neq (gvt q) (gvt q)) (wl_ok (r_por rfl rfl evc) (wl_ok (r_move (v := (.bool ((decide ((x4.kind : Int) ≠ x23.kind) || decide ((x4.n : Int) ≠ x23.n))))) rfl) (c_split (b := (decide ((x4.kind : Int) ≠ x23.kind) || decide ((x4.n : Int) ≠ x23.n))) hs (fun c41 hs => ?_) (fun c41 hs => ?_)))))))))))))))
      ·
       refine wl_off (b' := true) rfl (congrArg Value.bool c41) rfl (wl_off (b' := true) rfl (congrArg Value.bool c41) rfl (wl_off (b' := true) rfl (congrArg Value.bool c41) rfl (wl_off (b' := true) rfl (congrArg Value.bool c41) rfl (wl_off (b' := true) rfl (congrArg Value.bool c41) rfl (wl_off (b' := true) rfl (congrArg Value.bool c41) rfl (wl_ok (r_pick (b := true) (v := (.bool (true))) (congrArg Value.bool c41) rfl) (wl_ok (r_move (v := (.bool (true))) rfl) (wl_off (b' := true) rfl rfl rfl (wl_off (b' := true) rfl rfl rfl (wl_off (b' := true) rfl rfl rfl (wl_off (b' := true) rfl rfl rfl (wl_off (b' := true) rfl rfl rfl (wl_off (b' := true) rfl rfl rfl (wl_ok (r_pick (b := true) (v := (.bool (true))) rfl rfl) (wl_ok (r_move (v := (.bool (true))) rfl) (wl_off (b' := true) rfl rfl rfl (wl_off (b' := true) rfl rfl rfl (wl_off (b' := true) rfl rfl rfl (wl_off (b' := true) rfl rfl rfl (wl_off (b' := true) rfl rfl rfl (wl_off (b' := true) rfl rfl rfl (wl_ok (r_pick (b := true) (v := (.bool (true))) rfl rfl) (wl_ok (r_move (v := (.bool (true))) rfl) ?_)))))))))))))))))))))))
       refine wl_off (b' := true) rfl rfl rfl (wl_off (b' := true) rfl rfl rfl (wl_off (b' := true) rfl rfl rfl (wl_off (b' := true) rfl rfl rfl (wl_off (b' := true) rfl rfl rfl (wl_off (b' := true) rfl rfl rfl (wl_ok (r_pick (b := true) (v := (.bool (true))) rfl rfl) (wl_nil (then_loop ?_))))))))
       exact jend true ⟨h.cn _, hs⟩
      ·
       refine wl_on rfl (congrArg Value.bool c41) (wl_ok (r_fieldAddr Fld65x2 rfl) (wl_on rfl (congrArg Value.bool c41) (wl_ok (r_ldB h 8 rfl One63 rfl rfl) (wl_on rfl (congrArg Value.bool c41) (wl_ok (r_fieldAddr Fld65x2 rfl) (wl_on rfl (congrArg Value.bool c41) (wl_ok (r_ldB h 14 rfl One63 rfl rfl) (wl_on rfl (congrArg Value.bool c41) ?_))))))))
       obtain ⟨y42, e43, hs⟩ := o_bind hs
       refine w_call fnOk77 rfl rfl (slices_Equal_Tok_c _ _ h.lt u14 x4.e (h.rdS 4 rfl) u30 x23.e (h.rdS 10 rfl) _ e43) ?_
       rintro _ w ⟨k44, rfl⟩
       refine ⟨_, rfl, ?_⟩
       replace h := h.grow k44
       refine wl_on rfl (congrArg Value.bool c41) (wl_ok (r_notb rfl) (wl_ok (r_pick (b := false) (v := (.bool ((!y42)))) (congrArg Value.bool c41) rfl) (wl_ok (r_move (v := (.bool ((!y42)))) rfl) (c_split (b := (!y42)) hs (fun c45 hs => ?_) (fun c45 hs => ?_)))))
       ·
        refine wl_off (b' := true) rfl (congrArg Value.bool c45) rfl (wl_off (b' := true) rfl (congrArg Value.bool c45) rfl (wl_off (b' := true) rfl (congrArg Value.bool c45) rfl (wl_off (b' := true) rfl (congrArg Value.bool c45) rfl (wl_off (b' := true) rfl (congrArg Value.bool c45) rfl (wl_off (b' := true) rfl (congrArg Value.bool c45) rfl (wl_ok (r_pick (b := true) (v := (.bool (true))) (congrArg Value.bool c45) rfl) (wl_ok (r_move (v := (.bool (true))) rfl) (wl_off (b' := true) rfl rfl rfl (wl_off (b' := true) rfl rfl rfl (wl_off (b' := true) rfl rfl rfl (wl_off (b' := true) rfl rfl rfl (wl_off (b' := true) rfl rfl rfl (wl_off (b' := true) rfl rfl rfl (wl_ok (r_pick (b := true) (v := (.bool (true))) rfl rfl) (wl_ok (r_move (v := (.bool (true))) rfl) (wl_off (b' := true) rfl rfl rfl (wl_off (b' := true) rfl rfl rfl (wl_off (b' := true) rfl rfl rfl (wl_off (b' := true) rfl rfl rfl (wl_off (b' := true) rfl rfl rfl (wl_off (b' := true) rfl rfl rfl (wl_ok (r_pick (b := true) (v := (.bool (true))) rfl rfl) (wl_nil ?_)))))))))))))))))))))))
        refine then_loop ?_
        exact jend true ⟨h.cn _, hs⟩
       ·
        refine wl_on rfl (congrArg Value.bool c45) (wl_ok (r_fieldAddr Fld65x3 rfl) (wl_on rfl (congrArg Value.bool c45) (wl_ok (r_ldB h 8 rfl One63 rfl rfl) (wl_on rfl (congrArg Value.bool c45) (wl_ok (r_fieldAddr Fld65x3 rfl) (wl_on rfl (congrArg Value.bool c45) (wl_ok (r_ldB h 14 rfl One63 rfl rfl) (wl_on rfl (congrArg Value.bool c45) ?_))))))))
        obtain ⟨y46, e47, hs⟩ := o_bind hs
        refine w_call fnOk77 rfl rfl (slices_Equal_Tok_c _ _ h.lt u16 x4.f (h.rdS 5 rfl) u32 x23.f (h.rdS 11 rfl) _ e47) ?_
        rintro _ w ⟨k48, rfl⟩
        refine ⟨_, rfl, ?_⟩
        replace h := h.grow k48
        refine wl_on rfl (congrArg Value.bool c45) (wl_ok (r_notb rfl) (wl_ok (r_pick (b := false) (v := (.bool ((!y46)))) (congrArg Value.bool c45) rfl) (wl_ok (r_move (v := (.bool ((!y46)))) rfl) (c_split (b := (!y46)) hs (fun c49 hs => ?_) (fun c49 hs => ?_)))))
        ·
         refine wl_off (b' := true) rfl (congrArg Value.bool c49) rfl (wl_off (b' := true) rfl (congrArg Value.bool c49) rfl (wl_off (b' := true) rfl (congrArg Value.bool c49) rfl (wl_off (b' := true) rfl (congrArg Value.bool c49) rfl (wl_off (b' := true) rfl (congrArg Value.bool c49) rfl (wl_off (b' := true) rfl (congrArg Value.bool c49) rfl (wl_ok (r_pick (b := true) (v := (.bool (true))) (congrArg Value.bool c49) rfl) (wl_ok (r_move (v := (.bool (true))) rfl) (wl_off (b' := true) rfl rfl rfl (wl_off (b' := true) rfl rfl rfl (wl_off (b' := true) rfl rfl rfl (wl_off (b' := true) rfl rfl rfl (wl_off (b' := true) rfl rfl rfl (wl_off (b' := true) rfl rfl rfl (wl_ok (r_pick (b := true) (v := (.bool (true))) rfl rfl) (wl_nil (then_loop ?_))))))))))))))))
         exact jend true ⟨h.cn _, hs⟩
        ·
         refine wl_on rfl (congrArg Value.bool c49) (wl_ok (r_fieldAddr Fld65x4 rfl) (wl_on rfl (congrArg Value.bool c49) (wl_ok (r_ldB h 8 rfl One41 rfl rfl) (wl_on rfl (congrArg Value.bool c49) (wl_ok (r_fieldAddr Fld65x4 rfl) (wl_on rfl (congrArg Value.bool c49) (wl_ok (r_ldB h 14 rfl One41 rfl rfl) (wl_on rfl (congrArg Value.bool c49) ?_))))))))
         obtain ⟨y50, e51, hs⟩ := o_bind hs
         refine w_call fnOk43 rfl rfl (ih _ _ h.lt u18 x4.a (h.rdS 6 rfl) u34 x23.a (h.rdS 12 rfl) _ e51) ?_
         rintro _ w ⟨k52, rfl⟩
         refine ⟨_, rfl, ?_⟩
         replace h := h.grow k52
         refine wl_on rfl (congrArg Value.bool c49) (wl_ok (r_notb rfl) (wl_ok (r_pick (b := false) (v := (.bool ((!y50)))) (congrArg Value.bool c49) rfl) (wl_ok (r_move (v := (.bool ((!y50)))) rfl) (c_split (b := (!y50)) hs (fun c53 hs => ?_) (fun c53 hs => ?_)))))
         ·
          refine wl_off (b' := true) rfl (congrArg Value.bool c53) rfl (wl_off (b' := true) rfl (congrArg Value.bool c53) rfl (wl_off (b' := true) rfl (congrArg Value.bool c53) rfl (wl_off (b' := true) rfl (congrArg Value.bool c53) rfl (wl_off (b' := true) rfl (congrArg Value.bool c53) rfl (wl_off (b' := true) rfl (congrArg Value.bool c53) rfl (wl_ok (r_pick (b := true) (v := (.bool (true))) (congrArg Value.bool c53) rfl) (wl_nil (then_loop ?_))))))))
          exact jend true ⟨h.cn _, hs⟩
         ·
          refine wl_on rfl (congrArg Value.bool c53) (wl_ok (r_fieldAddr Fld65x5 rfl) (wl_on rfl (congrArg Value.bool c53) (wl_ok (r_ldB h 8 rfl One41 rfl rfl) (wl_on rfl (congrArg Value.bool c53) (wl_ok (r_fieldAddr Fld65x5 rfl) (wl_on rfl (congrArg Value.bool c53) (wl_ok (r_ldB h 14 rfl One41 rfl rfl) (wl_on rfl (congrArg Value.bool c53) ?_))))))))
          obtain ⟨y54, e55, hs⟩ := o_bind hs
          refine w_call fnOk43 rfl rfl (ih _ _ h.lt u20 x4.b (h.rdS 7 rfl) u36 x23.b (h.rdS 13 rfl) _ e55) ?_
          rintro _ w ⟨k56, rfl⟩
          refine ⟨_, rfl, ?_⟩
          replace h := h.grow k56
          refine wl_on rfl (congrArg Value.bool c53) (wl_ok (r_notb rfl) (wl_ok (r_pick (b := false) (v := (.bool ((!y54)))) (congrArg Value.bool c53) rfl) (wl_nil (then_loop ?_))))
          exact jend (!y54) ⟨h.cn _, hs⟩
    ·
     rw [drop_ge (hik ▸ e7), eachI_nil] at hs
     refine wc_exit (then_exit (then_exit (inBlock_eq (then_normal (wc_seq (wc_region (wl_ok (r_assign (v := (.bool (true))) rfl) (wl_nil (then_normal (wc_ret (fin1 (v := (.bool (true))) Tryz.results43 rfl ?_)))))))))))
     obtain rfl := Option.some.inj hs
     exact ⟨h.grown, rfl⟩
def wandererref_SameSource_j22 (nx6 : Unit → Option Bool) (x27 : Bool) : Option Bool :=
  bif x27 then some false else nx6 ()
def wandererref_SameSource_b23 (N : Nat) (b : List Fun) (i3 : Int) (x4 : Fun) (s : Unit) (nx6 : Unit → Option Bool) : Option Bool :=
  (idx b i3).bind fun x17 => bif (decide ((x4.params : Int) = x17.params) && decide ((x4.locals : Int) = x17.locals)) then (wandererref_sameStmts N x4.body x17.body).bind fun y32 => wandererref_SameSource_j22 nx6 (!y32) else wandererref_SameSource_j22 nx6 true
def wandererref_SameSource_k24 (s : Unit) : Option Bool :=
  some true
def wandererref_SameSource (N : Nat) (a : List Fun) (b : List Fun) : Option Bool :=
  bif decide (((a.length : Int) : Int) ≠ (b.length : Int)) then some false else eachI (wandererref_SameSource_b23 N b) wandererref_SameSource_k24 0 a ()
theorem wandererref_SameSource_c (N : Nat) (w0 : World) (M : BS) (hM : ∀ b, M b → b < w0.heap.size) (va : Value) (a : List Fun) (ha : Rd2 rFun w0 BE M va a) (vb : Value) (b : List Fun) (hb : Rd2 rFun w0 BE M vb b) (r : Bool) (hs : wandererref_SameSource N a b = some r) :
    Calls Tryz.prog 11 #[va, vb] w0 (fun e w' => Grow w0 w' ∧ e = .returned (.bool r)) := by
 refine calls_start (args := [va, vb]) Tryz.func11 rfl Tryz.ntmps11 (Nat.le_of_ble_eq_true rfl) ?_
 have h := SH.init hM
 replace h := h.argSr 1 ha none_own
 replace h := h.argSr 2 hb (hupd_own_sr none_own)
 have hl_a := ha.len_le
 have hl_b := hb.len_le
 refine wc_seq (wc_region (wl_ok (r_assign (v := (.bool (false))) rfl) (wl_nil (then_normal (wc_seq (wc_region (wl_ok (r_move (v := va) rfl) (wl_ok (r_move (v := vb) rfl) (w_callIn (args := [va, vb, (.func (.func 42) #[] #[])]) fnOk41 rfl rfl (calls_start (args := [va, vb, (.func (.func 42) #[] #[])]) Tryz.func41 rfl Tryz.ntmps41 (Nat.le_of_ble_eq_true rfl) (wc_seq (wc_region (wl_ok (r_assign (v := (.bool (false))) rfl) (wl_nil (then_normal (wc_seq (wc_seq (wc_region (wl_ok (r_move (v := va) rfl) (wl_ok (r_len SliceOf22 rfl (h.srS 1 rfl)) (wl_ok (r_move (v := vb) rfl) (wl_ok (r_len SliceOf22 rfl (h.srS 2 rfl)) (wl_ok (r_neq rfl rfl) ?_)))))))))))))))))))))))
 refine wl_nil (then_normal (wc_ifb hs rfl (fun c1 hs => ?_) (fun c1 hs => ?_)))
 ·
  refine wc_seq (wc_region (wl_ok (r_assign (v := (.bool (false))) rfl) (wl_nil (then_normal (wc_ret (then_ret (fin1 (v := (.bool (false))) Tryz.results41 rfl (⟨_, rfl, ?_⟩))))))))
  refine wl_ok (r_assign (v := (.bool (false))) rfl) (wl_nil (then_normal (wc_ret (fin1 (v := (.bool (false))) Tryz.results11 rfl ?_))))
  obtain rfl := Option.some.inj hs
  exact ⟨h.grown, rfl⟩
 ·
  refine wc_skip (then_normal (wc_seq (wc_seq (wc_region (wl_ok (r_move (v := va) rfl) (wl_ok (r_len SliceOf22 rfl (h.srS 1 rfl)) (wl_ok (r_move (v := (.int .i64 (0))) rfl) (wl_nil (then_normal (wc_block (wc_lp (σ := Nat × Int) (inl [6, 7, 8, 9, 17, 18, 19, 20, 21, 22, 23, 24, 25, 26, 27, 28, 29, 30, 31]) (fun ⟨k2, i3⟩ => [(17, (.int .i64 (i3)))]) (fun ⟨k2, i3⟩ w => SH w0 M BE w (hset [(1, .sr rFun va a), (2, .sr rFun vb b)]) ∧ i3 = (k2 : Int) ∧ eachI (wandererref_SameSource_b23 N b) wandererref_SameSource_k24 i3 (a.drop k2) () = some r) (fun ⟨k2, i3⟩ => a.length - k2) ⟨0, 0⟩ ⟨rfl, trivial⟩ ?_ ?_)))))))))))
  ·
   exact ⟨h.cn _, rfl, hs⟩
  ·
   rintro ⟨k2, i3⟩ w junk ⟨h, hik, hs⟩
   refine wc_seq (wc_region ?_)
   refine wl_ok (r_lss rfl rfl) (wl_nil (then_normal ?_))
   refine wc_seq (wc_if rfl (fun e7 => ?_) (fun e7 => ?_))
   ·
    refine wc_skip (then_normal ?_)
    obtain ⟨x4, e8a, e8b⟩ := drop_lt (hik ▸ e7)
    rw [e8b, eachI_cons] at hs
    generalize hnx6 : eachI (wandererref_SameSource_b23 N b) wandererref_SameSource_k24 (i3 + 1) (a.drop (k2 + 1)) = nx6 at hs
    have e8r := nat_rng ((h.srS 1 rfl)).len_le hik e7
    refine wc_seq (wc_block (wc_seq (wc_region (wl_ok (r_move (v := (.int .i64 (i3))) rfl) ?_))))
    obtain ⟨b10, o11, cs12, h, r13, i9⟩ := h.ixS 1 3 rfl SliceOf22 rfl (nat_nn hik) (get_nat hik e8a)
    obtain ⟨u14, rfl, g15⟩ := rFun_open r13
    replace h := h.knowRd 4 g15.up
    refine wl_ok (i9 _ _ _ _ _ _ _ _ _ rfl rfl) (wl_ok (r_ldPN (k := 0) (vs := [(.int .i64 (x4.params)), (.int .i64 (x4.locals)), u14]) h 3 rfl Many43 rfl rfl rfl (Nat.le_of_ble_eq_true rfl)) (w_allocN h 5 Many43 fun w b16 h => wl_ok (r_assign (v := (.int .i64 (i3))) rfl) (w_stN (vs := [(.int .i64 (x4.params)), (.int .i64 (x4.locals)), u14]) h 5 [(.int .i64 (x4.params)), (.int .i64 (x4.locals)), u14] rfl Many43 rfl rfl rfl rfl rfl (ones_cons rfl (ones_cons rfl (ones_cons (h.rdAt 4 rfl).one ones_nil))) fun w h => wl_nil (then_normal (wc_seq (wc_region (wl_ok (r_move (v := vb) rfl) (wl_ok (r_move (v := (.int .i64 (i3))) rfl) ?_))))))))
    obtain ⟨x17, e18, hs⟩ := o_bind hs
    obtain ⟨b20, o21, cs22, h, r23, i19⟩ := h.ixS 2 6 rfl SliceOf22 rfl (o_idx e18).1 (o_idx e18).2
    obtain ⟨u24, rfl, g25⟩ := rFun_open r23
    replace h := h.knowRd 7 g25.up
    refine wl_ok (i19 _ _ _ _ _ _ _ _ _ rfl rfl) (wl_ok (r_ldPN (k := 0) (vs := [(.int .i64 (x17.params)), (.int .i64 (x17.locals)), u24]) h 6 rfl Many43 rfl rfl rfl (Nat.le_of_ble_eq_true rfl)) (w_allocN h 8 Many43 fun w b26 h => w_stN (vs := [(.int .i64 (x17.params)), (.int .i64 (x17.locals)), u24]) h 8 [(.int .i64 (x17.params)), (.int .i64 (x17.locals)), u24] rfl Many43 rfl rfl rfl rfl rfl (ones_cons rfl (ones_cons rfl (ones_cons (h.rdAt 7 rfl).one ones_nil))) fun w h => wl_nil (then_normal (wc_join (σ := Bool) (inl [26, 27, 28, 29, 30]) (fun x27 => [(30, (.bool (x27)))]) (fun x27 w => SH w0 M BE w (hset [(1, .sr rFun va a), (2, .sr rFun vb b)]) ∧ wandererref_SameSource_j22 nx6 x27 = some r) ?_ ?_))))
    ·
     rintro x27 w junk ⟨h, hs⟩
     refine wc_ifb hs rfl (fun c28 hs => ?_) (fun c28 hs => ?_)
     ·
      refine wc_seq (wc_region (wl_ok (r_assign (v := (.bool (false))) rfl) (wl_nil (then_normal (wc_ret (inBlock_ret (then_ret (then_ret (inBlock_ret (then_ret (fin1 (v := (.bool (false))) Tryz.results41 rfl (⟨_, rfl, ?_⟩))))))))))))
      refine wl_ok (r_assign (v := (.bool (false))) rfl) (wl_nil (then_normal (wc_ret (fin1 (v := (.bool (false))) Tryz.results11 rfl ?_))))
      obtain rfl := Option.some.inj hs
      exact ⟨h.grown, rfl⟩
     ·
      refine wc_skip (inBlock_normal (then_normal (wc_region (wl_ok (r_add rfl rfl e8r) (wl_ok (r_move (v := (.int .i64 ((i3 + 1)))) rfl) (wl_nil (then_loop ?_)))))))
      subst hnx6
      exact lend ⟨k2 + 1, i3 + 1⟩ ⟨h.cn _, by omega, hs⟩ (by have := of_decide_eq_true e7; dsimp only; omega)
    ·
     refine wc_region (wl_ok (r_move (v := (.func (.func 42) #[] #[])) rfl) (wl_ok (r_ldBN (vs := [(.int .i64 (x4.params)), (.int .i64 (x4.locals)), u14]) h 5 rfl Many43 rfl rfl rfl) (wl_ok (r_ldBN (vs := [(.int .i64 (x17.params)), (.int .i64 (x17.locals)), u24]) h 8 rfl Many43 rfl rfl rfl) (w_callIn (args := [(.agg #[(.int .i64 (x4.params)), (.int .i64 (x4.locals)), u14]), (.agg #[(.int .i64 (x17.params)), (.int .i64 (x17.locals)), u24])]) fnOk42 rfl rfl (calls_start (args := [(.agg #[(.int .i64 (x4.params)), (.int .i64 (x4.locals)), u14]), (.agg #[(.int .i64 (x17.params)), (.int .i64 (x17.locals)), u24])]) Tryz.func42 rfl Tryz.ntmps42 (Nat.le_of_ble_eq_true rfl) (wc_seq (wc_region (w_box (cs := [(.int .i64 (x4.params)), (.int .i64 (x4.locals)), u14]) h 9 rfl rfl fun w b29 h => w_box (cs := [(.int .i64 (x17.params)), (.int .i64 (x17.locals)), u24]) h 10 rfl rfl fun w b30 h => wl_ok (r_assign (v := (.bool (false))) rfl) (wl_nil (then_normal (wc_seq (wc_region (wl_ok (r_fieldAddr Fld43x0 rfl) (wl_ok (r_ldB h 9 rfl One3 rfl rfl) (wl_ok (r_fieldAddr Fld43x0 rfl) (wl_ok (r_ldB h 10 rfl One3 rfl rfl) (wl_ok (r_eql rfl rfl) (wl_ok (r_move (v := (.bool (decide ((x4.params : Int) = x17.params)))) rfl) (wl_gd0 rfl rfl (fun q => r_fieldAddr Fld43x1 rfl) (wl_gd0 rfl rfl (fun q => r_ldB h 9 rfl One3 (gvt q) rfl) (wl_gd0 rfl rfl (fun q => r_fieldAddr Fld43x1 rfl) ?_)))))))))))))))))))))
     refine wl_gd0 rfl rfl (fun q => r_ldB h 10 rfl One3 (gvt q) rfl) (wl_gd0 rfl rfl (fun q => r_eql (gvt q) (gvt q)) (wl_ok (r_pand rfl rfl evc) (wl_ok (r_move (v := (.bool ((decide ((x4.params : Int) = x17.params) && decide ((x4.locals : Int) = x17.locals))))) rfl) (c_split (b := (decide ((x4.params : Int) = x17.params) && decide ((x4.locals : Int) = x17.locals))) hs (fun c31 hs => ?_) (fun c31 hs => ?_)))))
     ·
      refine wl_on rfl (congrArg Value.bool c31) (wl_ok (r_fieldAddr Fld43x2 rfl) (wl_on rfl (congrArg Value.bool c31) (wl_ok (r_ldB h 9 rfl One41 rfl rfl) (wl_on rfl (congrArg Value.bool c31) (wl_ok (r_fieldAddr Fld43x2 rfl) (wl_on rfl (congrArg Value.bool c31) (wl_ok (r_ldB h 10 rfl One41 rfl rfl) (wl_on rfl (congrArg Value.bool c31) ?_))))))))
      obtain ⟨y32, e33, hs⟩ := o_bind hs
      refine w_call fnOk43 rfl rfl (wandererref_sameStmts_c N _ _ h.lt u14 x4.body (h.rdS 4 rfl) u24 x17.body (h.rdS 7 rfl) _ e33) ?_
      rintro _ w ⟨k34, rfl⟩
      refine ⟨_, rfl, ?_⟩
      replace h := h.grow k34
      refine wl_ok (r_pick (b := true) (v := (.bool (y32))) (congrArg Value.bool c31) rfl) (wl_ok (r_assign (v := (.bool (y32))) rfl) (wl_nil (then_normal (wc_ret (fin1 (v := (.bool (y32))) Tryz.results42 rfl (⟨_, rfl, ?_⟩))))))
      refine wl_ok (r_notb rfl) (wl_nil (then_loop ?_))
      exact jend (!y32) ⟨h.cn _, hs⟩
     ·
      refine wl_off (b' := false) rfl (congrArg Value.bool c31) rfl (wl_off (b' := false) rfl (congrArg Value.bool c31) rfl (wl_off (b' := false) rfl (congrArg Value.bool c31) rfl (wl_off (b' := false) rfl (congrArg Value.bool c31) rfl (wl_off (b' := false) rfl (congrArg Value.bool c31) rfl (wl_ok (r_pick (b := false) (v := (.bool (false))) (congrArg Value.bool c31) rfl) (wl_ok (r_assign (v := (.bool (false))) rfl) (wl_nil (then_normal (wc_ret (fin1 (v := (.bool (false))) Tryz.results42 rfl (⟨_, rfl, ?_⟩)))))))))))
      refine wl_ok (r_notb rfl) (wl_nil (then_loop ?_))
      exact jend true ⟨h.cn _, hs⟩
   ·
    rw [drop_ge (hik ▸ e7), eachI_nil] at hs
    refine wc_exit (then_exit (then_exit (inBlock_eq (then_normal (wc_seq (wc_region (wl_ok (r_assign (v := (.bool (true))) rfl) (wl_nil (then_normal (wc_ret (fin1 (v := (.bool (true))) Tryz.results41 rfl (⟨_, rfl, ?_⟩))))))))))))
    refine wl_ok (r_assign (v := (.bool (true))) rfl) (wl_nil (then_normal (wc_ret (fin1 (v := (.bool (true))) Tryz.results11 rfl ?_))))
    obtain rfl := Option.some.inj hs
    exact ⟨h.grown, rfl⟩
def wandererlaw_WordsSay_j1 (N : Nat) (y1 : Str × Int) (y10 : Int) (b : Str) (y4 : List Fun × Int) (x13 : Str) : Option Bool :=
  (wandererlaw_written N).bind fun y14 => bif (((!y14) || decide ((y1.2 : Int) ≠ y10)) || decide ((y1.1 : Str) ≠ x13)) then some false else bif decide ((60000 : Int) < (b.length : Int)) then some (decide ((y4.2 : Int) = 2) && decide (((y4.1.length : Int) : Int) = 0)) else (wandererref_SourceRead N b).bind fun y19 => bif decide ((y4.2 : Int) = y19.2) then (wandererref_SameSource N y4.1 y19.1).bind fun y26 => some y26 else some false
def wandererlaw_WordsSay (N : Nat) (a : List Fun) (b : Str) : Option Bool :=
  (words_Print N a).bind fun y1 => (words_Parse N b).bind fun y4 => (wandererref_CheckSource N a).bind fun y10 => bif decide ((y10 : Int) = 0) then (wandererref_SourceText N a).bind fun y30 => wandererlaw_WordsSay_j1 N y1 y10 b y4 y30 else wandererlaw_WordsSay_j1 N y1 y10 b y4 []
theorem wandererlaw_WordsSay_c (N : Nat) (w0 : World) (M : BS) (hM : ∀ b, M b → b < w0.heap.size) (hT : Tabs Tryz.prog 5 w0) (va : Value) (a : List Fun) (ha : Rd2 rFun w0 BE M va a) (b : Str) (r : Bool) (hs : wandererlaw_WordsSay N a b = some r) :
    Calls Tryz.prog 3 #[va, (strV b)] w0 (fun e w' => Grow w0 w' ∧ e = .returned (.bool r)) := by
 refine calls_start (args := [va, (strV b)]) Tryz.func3 rfl Tryz.ntmps3 (Nat.le_of_ble_eq_true rfl) ?_
 have h := SH.init hM
 replace h := h.argSr 1 ha none_own
 have hl_a := ha.len_le
 refine wc_seq (wc_region (wl_ok (r_assign (v := (.bool (false))) rfl) (wl_nil (then_normal (wc_seq (wc_region (wl_ok (r_move (v := va) rfl) ?_)))))))
 obtain ⟨y1, e2, hs⟩ := o_bind hs
 refine w_call fnOk5 rfl rfl (words_Print_c N _ _ h.lt (hT.go h.keep) va a (h.srS 1 rfl) _ e2) ?_
 rintro _ w ⟨k3, rfl⟩
 refine ⟨_, rfl, ?_⟩
 replace h := h.grow k3
 refine wl_ok (r_move (v := (.tuple #[(strV y1.1), (.int .i64 (y1.2))])) rfl) (wl_ok (r_extract rfl rfl) (wl_ok (r_extract rfl rfl) (wl_ok (r_assign (v := (strV y1.1)) rfl) (wl_ok (r_assign (v := (.int .i64 (y1.2))) rfl) (wl_nil (then_normal (wc_seq (wc_region (wl_ok (r_move (v := (strV b)) rfl) ?_)))))))))
 obtain ⟨y4, e5, hs⟩ := o_bind hs
 refine w_call fnOk6 rfl rfl (words_Parse_c N _ _ h.lt (hT.go h.keep) b _ e5) ?_
 rintro _ w ⟨k9, u6, rfl, g7, g8⟩
 refine ⟨_, rfl, ?_⟩
 replace h := h.gotOwn 2 k9 g7 g8
 refine wl_ok (r_move (v := (.tuple #[u6, (.int .i64 (y4.2))])) rfl) (wl_ok (r_extract rfl rfl) (wl_ok (r_extract rfl rfl) (wl_ok (r_assign (v := u6) rfl) (wl_ok (r_assign (v := (.int .i64 (y4.2))) rfl) (wl_nil (then_normal (wc_seq (wc_region (wl_ok (r_move (v := va) rfl) ?_)))))))))
 obtain ⟨y10, e11, hs⟩ := o_bind hs
 refine w_call fnOk7 rfl rfl (wandererref_CheckSource_c N _ _ h.lt va a (h.srS 1 rfl) _ e11) ?_
 rintro _ w ⟨k12, rfl⟩
 refine ⟨_, rfl, ?_⟩
 replace h := h.grow k12
 refine wl_ok (r_assign (v := (.int .i64 (y10))) rfl) (wl_nil (then_normal (wc_seq (wc_region (wl_ok (r_assign (v := (strV [])) rfl) (wl_nil (then_normal (wc_join (σ := Str) (inl [10, 25, 26, 27, 28]) (fun x13 => [(10, (strV x13))]) (fun x13 w => SH w0 M BE w (hset [(2, .own rFun 43 u6 y4.1)]) ∧ wandererlaw_WordsSay_j1 N y1 y10 b y4 x13 = some r) ?_ ?_))))))))
 ·
  rintro x13 w junk ⟨h, hs⟩
  refine wc_seq (wc_seq (wc_region ?_))
  obtain ⟨y14, e15, hs⟩ := o_bind hs
  refine w_call fnOk9 rfl rfl (wandererlaw_written_c N _ _ h.lt (hT.go h.keep)  _ e15) ?_
  rintro _ w ⟨k16, rfl⟩
  refine ⟨_, rfl, ?_⟩
  replace h := h.grow k16
  refine wl_ok (r_notb rfl) (wl_ok (r_move (v := (.bool ((!y14)))) rfl) (wl_gd0 rfl rfl (fun q => r_move (v := (.int .i64 (y1.2))) rfl) (wl_gd0 rfl rfl (fun q => r_move (v := (.int .i64 (y10))) rfl) (wl_gd0 rfl rfl (fun q => r_neq (gvt q) (gvt q)) (wl_ok (r_por rfl rfl evc) (wl_ok (r_move (v := (.bool (((!y14) || decide ((y1.2 : Int) ≠ y10))))) rfl) (wl_gd0 rfl rfl (fun q => r_move (v := (strV y1.1)) rfl) (wl_gd0 rfl rfl (fun q => r_move (v := (strV x13)) rfl) (wl_gd0 rfl rfl (fun q => r_neqs (gvt q) (gvt q)) (wl_ok (r_por rfl rfl evc) (wl_nil (then_normal (wc_ifb hs rfl (fun c17 hs => ?_) (fun c17 hs => ?_))))))))))))))
  ·
   refine wc_seq (wc_region (wl_ok (r_assign (v := (.bool (false))) rfl) (wl_nil (then_normal (wc_ret (then_ret (fin1 (v := (.bool (false))) Tryz.results3 rfl ?_)))))))
   obtain rfl := Option.some.inj hs
   exact ⟨h.grown, rfl⟩
  ·
   refine wc_skip (then_normal (wc_seq (wc_seq (wc_region (wl_ok (r_move (v := (strV b)) rfl) (wl_ok (r_lenS Tryz.underlying9 rfl) (wl_ok (r_gtr rfl rfl) (wl_nil (then_normal (wc_ifb hs rfl (fun c18 hs => ?_) (fun c18 hs => ?_)))))))))))
   ·
    refine wc_seq (wc_region (wl_ok (r_move (v := (.int .i64 (y4.2))) rfl) (wl_ok (r_eql rfl rfl) (wl_ok (r_move (v := (.bool (decide ((y4.2 : Int) = 2)))) rfl) (wl_gd0 rfl rfl (fun q => r_move (v := u6) rfl) (wl_gd0 rfl rfl (fun q => r_len SliceOf22 (gvt q) (h.ownS 2 rfl)) (wl_gd0 rfl rfl (fun q => r_eql (gvt q) rfl) (wl_ok (r_pand rfl rfl evc) (wl_ok (r_assign (v := (.bool ((decide ((y4.2 : Int) = 2) && decide (((y4.1.length : Int) : Int) = 0))))) rfl) (wl_nil (then_normal (wc_ret (then_ret (fin1 (v := (.bool ((decide ((y4.2 : Int) = 2) && decide (((y4.1.length : Int) : Int) = 0))))) Tryz.results3 rfl ?_))))))))))))))
    obtain rfl := Option.some.inj hs
    exact ⟨h.grown, rfl⟩
   ·
    refine wc_skip (then_normal (wc_seq (wc_region (wl_ok (r_move (v := (strV b)) rfl) ?_))))
    obtain ⟨y19, e20, hs⟩ := o_bind hs
    refine w_call fnOk10 rfl rfl (wandererref_SourceRead_c N _ _ h.lt (hT.go h.keep) b _ e20) ?_
    rintro _ w ⟨k24, u21, rfl, g22, g23⟩
    refine ⟨_, rfl, ?_⟩
    replace h := h.gotOwn 3 k24 g22 g23
    refine wl_ok (r_move (v := (.tuple #[u21, (.int .i64 (y19.2))])) rfl) (wl_ok (r_extract rfl rfl) (wl_ok (r_extract rfl rfl) (wl_ok (r_assign (v := u21) rfl) (wl_ok (r_assign (v := (.int .i64 (y19.2))) rfl) (wl_nil (then_normal (wc_seq (wc_region (wl_ok (r_move (v := (.int .i64 (y4.2))) rfl) (wl_ok (r_move (v := (.int .i64 (y19.2))) rfl) (wl_ok (r_eql rfl rfl) (wl_ok (r_move (v := (.bool (decide ((y4.2 : Int) = y19.2)))) rfl) (c_split (b := decide ((y4.2 : Int) = y19.2)) hs (fun c25 hs => ?_) (fun c25 hs => ?_))))))))))))))
    ·
     refine wl_on rfl (congrArg Value.bool c25) (wl_ok (r_move (v := u6) rfl) (wl_on rfl (congrArg Value.bool c25) (wl_ok (r_move (v := u21) rfl) (wl_on rfl (congrArg Value.bool c25) ?_))))
     obtain ⟨y26, e27, hs⟩ := o_bind hs
     refine w_call fnOk11 rfl rfl (wandererref_SameSource_c N _ _ h.lt u6 y4.1 (h.ownS 2 rfl) u21 y19.1 (h.ownS 3 rfl) _ e27) ?_
     rintro _ w ⟨k28, rfl⟩
     refine ⟨_, rfl, ?_⟩
     replace h := h.grow k28
     refine wl_ok (r_pick (b := true) (v := (.bool (y26))) (congrArg Value.bool c25) rfl) (wl_ok (r_assign (v := (.bool (y26))) rfl) (wl_nil (then_normal (wc_ret (fin1 (v := (.bool (y26))) Tryz.results3 rfl ?_)))))
     obtain rfl := Option.some.inj hs
     exact ⟨h.grown, rfl⟩
    ·
     refine wl_off (b' := false) rfl (congrArg Value.bool c25) rfl (wl_off (b' := false) rfl (congrArg Value.bool c25) rfl (wl_off (b' := false) rfl (congrArg Value.bool c25) rfl (wl_ok (r_pick (b := false) (v := (.bool (false))) (congrArg Value.bool c25) rfl) (wl_ok (r_assign (v := (.bool (false))) rfl) (wl_nil (then_normal (wc_ret (fin1 (v := (.bool (false))) Tryz.results3 rfl ?_))))))))
     obtain rfl := Option.some.inj hs
     exact ⟨h.grown, rfl⟩
 ·
  refine wc_seq (wc_region (wl_ok (r_move (v := (.int .i64 (y10))) rfl) (wl_ok (r_eql rfl rfl) (wl_nil (then_normal (wc_ifb hs rfl (fun c29 hs => ?_) (fun c29 hs => ?_)))))))
  ·
   refine wc_region (wl_ok (r_move (v := va) rfl) ?_)
   obtain ⟨y30, e31, hs⟩ := o_bind hs
   refine w_call fnOk8 rfl rfl (wandererref_SourceText_c N _ _ h.lt (hT.go h.keep) va a (h.srS 1 rfl) _ e31) ?_
   rintro _ w ⟨k32, rfl⟩
   refine ⟨_, rfl, ?_⟩
   replace h := h.grow k32
   refine wl_ok (r_assign (v := (strV y30)) rfl) (wl_nil (then_loop ?_))
   exact jend y30 ⟨h.cn _, hs⟩
  ·
   refine wc_skip (then_loop ?_)
   exact jend [] ⟨h.cn _, hs⟩
end
end Go.Proofs.YtckocfgmnlhcmaaGreatDoor
