/-
  What the law VmKeeps needs of our own library and of the walks, no more.
-/
import Derived.Test.YtfclkapelkhlpaaGreatDoorRows
import Derived.Test.YtfclkapelkhlpaaGreatDoorCards
import Derived.Test.YtfclkapelkhlpaaGreatDoorTie
import Derived.WalkKit
import Derived.Laws.StructEq
import Derived.ChangeKeysEq
import Derived.StillTail
import Derived.LoopN
import Derived.Deep.Quiet
import Derived.OrdersHeld
import Derived.Deep.RegionHeld3
import Derived.Deep.Slices
import Derived.MapKept
import Derived.Lib.Bytealg
import Derived.ChangeArms
import Derived.Lib.AppendZeros
import Derived.Lib.Overlaps
import Derived.Laws.CopyRow
import Derived.Shelf.SlSortCmp.SmallK
import Derived.Laws.Pointers
import Derived.Laws.OwnMore
import Derived.Laws.Concat
import Derived.Laws.Strings2
import Derived.Laws.Strings3
import Derived.Laws.IdiomStrings
import Derived.Lib.AppendStr
import Derived.Lib.ConvBytes
import Derived.Lib.LaidTab
import Derived.Lib.ItoaNum
import Derived.WideLaws
import Derived.Lib.SplitLaws
import Derived.Lib.JoinLaws
import Derived.Lib.AtoiAll
import Derived.Lib.ParseIntB
import Derived.Laws.NewFold
import Derived.Lib.Join
import Derived.Lib.Strings
import Derived.Sort.Grow
import Derived.Lib.Space
import Derived.Handed
import Derived.LaidMore
import Derived.LaidHandle
import Derived.Stop.LaidErr
import Derived.Shelf.Vars
import Derived.WideShapes
import Derived.Lib.ParseIntBTie
import Derived.Lib.ItoaLen
import Derived.Lib.AtoiAllCases
import Derived.Shelf.Strings.Builder1
import Derived.Laws.IdiomRangeMap
import Derived.Lib.FieldsLaws
import Derived.KernelRfl
import Derived.Test.YtfclkapelkhlpaaGreatDoorProg
import Derived.Lib.Slices
import Derived.Lib.Walk
import Derived.Shelf.Strings.OnBuilder
import Derived.Shelf.LaysM
import Derived.Shelf.Strconv.Itoa3
import Derived.Shelf.LaysC
import Derived.Shelf.Strconv.AtoiAll
import Derived.Shelf.Strconv.ErrVarAll
import Derived.Shelf.Strings.Split
import Derived.Shelf.Strings.Fields
import Derived.Shelf.Strings.BuilderX
import Derived.ProofKit
import Derived.SevenTiedAt
import Derived.OpenShut
import Derived.ShutString
import Derived.ChangeOld
import Derived.Below
import Derived.Test.YtfclkapelkhlpaaGreatDoorVmKeepsTc
set_option linter.unusedSimpArgs false
set_option linter.unusedVariables false
set_option maxRecDepth 10000
namespace Go.Proofs.YtfclkapelkhlpaaGreatDoor
open Go Go.Proofs Go.LX
noncomputable section
theorem wandererref_SourceRead_c (N : Nat) (w0 : World) (M : BS) (hM : ∀ b, M b → b < w0.heap.size) (hT : Tabs Tryz.prog 4 w0) (a : Str) (r : List Fun × Int) (hs : wandererref_SourceRead N a = some r) :
    Calls Tryz.prog 77 #[(strV a)] w0 (fun e w' => Grow w0 w' ∧ ∃ u0, e = .returned (.tuple #[u0, .int .i64 r.2]) ∧ OwnSl rFun 113 w' M u0 r.1 ∧ (∀ b, ob u0 b → w0.heap.size ≤ b)) := by
 refine calls_start (args := [(strV a)]) Tryz.func77 rfl Tryz.ntmps77 (Nat.le_of_ble_eq_true rfl) ?_
 have h := SH.init hM
 refine wc_seq (wc_region (wl_ok (r_assign (v := (.slice none 0 0)) rfl) (wl_ok (r_assign (v := (.int .i64 (0))) rfl) (wl_nil (then_normal (wc_seq (wc_region (wl_ok (r_move (v := (strV a)) rfl) ?_))))))))
 obtain ⟨y1, e2, hs⟩ := o_bind hs
 refine w_call fnOk101 rfl rfl (strings_Split_c _ _ h.lt (hT.go h.keep) a [32] _ e2) ?_
 rintro _ w ⟨k5, u3, rfl, g4⟩
 refine ⟨_, rfl, ?_⟩
 replace h := h.gotRd 1 k5 g4
 refine w_alloc1 h 2 One153 fun w b6 h => w_st1 h 2 [u3] rfl One153 rfl rfl rfl rfl (h.rdAt 1 rfl).one fun w h => wl_nil (then_normal (wc_seq (wc_region (w_alloc1 h 3 One67 fun w b7 h => wl_nil (then_normal (wc_seq (wc_seq (wc_region (wl_ok (r_ldB h 2 rfl One153 rfl rfl) (wl_ok (r_len SliceOf153 rfl (h.rdS 1 rfl)) (wl_ok (r_move (v := (.int .i64 (0))) rfl) (wl_nil (then_normal (wc_block ?_))))))))))))))
 replace h := h.nilO (R := rFun) (E := 113) 7
 refine wc_lp (σ := Nat × Int × Value × List Fun) (inl [6, 7, 8, 9, 10, 11, 24, 25, 26, 27, 28, 29, 30, 31, 32, 33, 34, 35, 36, 37, 38, 39, 40, 41, 42, 43, 44, 45, 46, 47, 48, 49, 50, 51, 52, 53, 54, 55, 56, 57, 58, 59, 60, 61, 62]) (fun ⟨k16, i17, v14, y15⟩ => [(24, (.int .i64 (i17)))]) (fun ⟨k16, i17, v14, y15⟩ w => SH w0 M BE w (hset [(1, .rd rStr u3 y1), (2, .blk b6 [u3]), (3, .blk b7 [v14]), (7, .own rFun 113 v14 y15)]) ∧ i17 = (k16 : Int) ∧ eachI (wandererref_SourceRead_b91 y1) (wandererref_SourceRead_k92 N y1 a) i17 (y1.drop k16) y15 = some r) (fun ⟨k16, i17, v14, y15⟩ => y1.length - k16) ⟨0, 0, (.slice none 0 0), []⟩ ⟨rfl, trivial⟩ ?_ ?_
 ·
  exact ⟨h.cn _, rfl, hs⟩
 ·
  rintro ⟨k16, i17, v14, y15⟩ w junk ⟨h, hik, hs⟩
  refine wc_seq (wc_region ?_)
  refine wl_ok (r_lss rfl rfl) (wl_nil (then_normal ?_))
  refine wc_seq (wc_if rfl (fun e21 => ?_) (fun e21 => ?_))
  ·
   refine wc_skip (then_normal ?_)
   obtain ⟨x18, e22a, e22b⟩ := drop_lt (hik ▸ e21)
   rw [e22b, eachI_cons] at hs
   generalize hnx20 : eachI (wandererref_SourceRead_b91 y1) (wandererref_SourceRead_k92 N y1 a) (i17 + 1) (y1.drop (k16 + 1)) = nx20 at hs
   have e22r := nat_rng ((h.rdS 1 rfl)).len_le hik e21
   refine wc_join (σ := Value × List Fun) (inl [6, 7, 8, 9, 10, 11, 26, 27, 28, 29, 30, 31, 32, 33, 34, 35, 36, 37, 38, 39, 40, 41, 42, 43, 44, 45, 46, 47, 48, 49, 50, 51, 52, 53, 54, 55, 56, 57, 58, 59, 60, 61]) (fun ⟨v23, y24⟩ => []) (fun ⟨v23, y24⟩ w => SH w0 M BE w (hset [(1, .rd rStr u3 y1), (2, .blk b6 [u3]), (3, .blk b7 [v23]), (7, .own rFun 113 v23 y24)]) ∧ wandererref_SourceRead_j19 nx20 y24 = some r) ?_ ?_
   ·
    rintro ⟨v23, y24⟩ w junk ⟨h, hs⟩
    refine wc_region (wl_ok (r_add rfl rfl e22r) (wl_ok (r_move (v := (.int .i64 ((i17 + 1)))) rfl) (wl_nil (then_loop ?_))))
    subst hnx20
    exact lend ⟨k16 + 1, i17 + 1, v23, y24⟩ ⟨h.cn _, by omega, hs⟩ (by have := of_decide_eq_true e21; dsimp only; omega)
   ·
    refine wc_block (wc_seq (wc_region (wl_ok (r_move (v := (.int .i64 (i17))) rfl) ?_)))
    obtain ⟨b26, o27, cs28, h, r29, i25⟩ := h.ixR 1 8 rfl SliceOf153 rfl (nat_nn hik) (get_nat hik e22a)
    obtain rfl := r29
    refine wl_ok (i25 _ _ _ _ _ _ _ _ _ rfl rfl) (wl_ok (r_ldP (k := 0) h 8 rfl One9 rfl rfl) (wl_ok (r_assign (v := (.int .i64 (i17))) rfl) (wl_ok (r_assign (v := (strV x18)) rfl) (wl_nil (then_normal (wc_join (σ := Bool) (inl [29, 30, 31, 32, 33, 34, 35, 36, 37]) (fun x30 => [(37, (.bool (x30)))]) (fun x30 w => SH w0 M BE w (hset [(1, .rd rStr u3 y1), (2, .blk b6 [u3]), (3, .blk b7 [v14]), (7, .own rFun 113 v14 y15)]) ∧ wandererref_SourceRead_j20 y1 i17 y15 nx20 x30 = some r) ?_ ?_))))))
    ·
     rintro x30 w junk ⟨h, hs⟩
     refine wc_ifb hs rfl (fun c31 hs => ?_) (fun c31 hs => ?_)
     ·
      refine wc_seq (wc_region (wl_ok (r_ldB h 2 rfl One153 rfl rfl) (wl_ok (r_move (v := (.int .i64 (i17))) rfl) (wl_ok (r_add rfl rfl e22r) ?_))))
      obtain ⟨x32, e33, hs⟩ := o_bind hs
      obtain ⟨b35, o36, cs37, h, r38, i34⟩ := h.ixR 1 9 rfl SliceOf153 rfl (o_idx e33).1 (o_idx e33).2
      obtain rfl := r38
      refine wl_ok (i34 _ _ _ _ _ _ _ _ _ rfl rfl) (wl_ok (r_ldP (k := 0) h 9 rfl One9 rfl rfl) ?_)
      obtain ⟨y39, e40, hs⟩ := o_bind hs
      refine w_call fnOk102 rfl rfl (strconv_Atoi_c _ _ h.lt (hT.go h.keep) x32 _ e40) ?_
      rintro _ w ⟨k43, u41, rfl, g42⟩
      refine ⟨_, rfl, ?_⟩
      replace h := h.grow k43
      refine wl_ok (r_move (v := (.tuple #[(.int .i64 (y39.1)), u41])) rfl) (wl_ok (r_extract rfl rfl) (wl_ok (r_extract rfl rfl) (wl_ok (r_assign (v := (.int .i64 (y39.1))) rfl) (wl_ok (r_assign (v := u41) rfl) (wl_nil (then_normal (wc_seq (wc_region (wl_ok (r_ldB h 2 rfl One153 rfl rfl) (wl_ok (r_move (v := (.int .i64 (i17))) rfl) ?_))))))))))
      obtain ⟨a44, hs⟩ := o_grd hs
      refine wl_ok (r_add rfl rfl a44) ?_
      obtain ⟨x45, e46, hs⟩ := o_bind hs
      obtain ⟨b48, o49, cs50, h, r51, i47⟩ := h.ixR 1 10 rfl SliceOf153 rfl (o_idx e46).1 (o_idx e46).2
      obtain rfl := r51
      refine wl_ok (i47 _ _ _ _ _ _ _ _ _ rfl rfl) (wl_ok (r_ldP (k := 0) h 10 rfl One9 rfl rfl) ?_)
      obtain ⟨y52, e53, hs⟩ := o_bind hs
      refine w_call fnOk102 rfl rfl (strconv_Atoi_c _ _ h.lt (hT.go h.keep) x45 _ e53) ?_
      rintro _ w ⟨k56, u54, rfl, g55⟩
      refine ⟨_, rfl, ?_⟩
      replace h := h.grow k56
      refine wl_ok (r_move (v := (.tuple #[(.int .i64 (y52.1)), u54])) rfl) (wl_ok (r_extract rfl rfl) (wl_ok (r_extract rfl rfl) (wl_ok (r_assign (v := (.int .i64 (y52.1))) rfl) (wl_ok (r_assign (v := u54) rfl) (wl_nil (then_normal (wc_region (wl_ok (r_ldB h 3 rfl One67 rfl rfl) (wl_ok (r_move (v := (.int .i64 (y39.1))) rfl) (wl_ok (r_move (v := (.int .i64 (y52.1))) rfl) (wl_ok (r_build (pv := [(0, (.int .i64 (y39.1))), (1, (.int .i64 (y52.1)))]) (out := [(.int .i64 (y39.1)), (.int .i64 (y52.1)), (.slice none 0 0)]) Struct113 rfl ⟨0, 1, [(.int .i64 (y39.1))], rfl, rfl, rfl, Nat.le_of_ble_eq_true rfl, ⟨1, 1, [(.int .i64 (y52.1))], rfl, rfl, rfl, Nat.le_of_ble_eq_true rfl, rfl⟩⟩) (w_bs (R := rFun) (vs := [(.agg #[(.int .i64 (y39.1)), (.int .i64 (y52.1)), (.slice none 0 0)])]) (xs := [(⟨y39.1, y52.1, []⟩ : Fun)]) h 11 ElemOf67 rfl rfl rfl ⟨⟨_, rfl, Rd2.nil⟩, trivial⟩ rfl fun w u57 h => ?_))))))))))))
      obtain ⟨a58, hs⟩ := o_grd hs
      refine w_app (R := rFun) (m := [(⟨y39.1, y52.1, []⟩ : Fun)]) h 7 rfl (h.ownS 11 rfl) ElemOf67 rfl rfl rfl a58.1 a58.2 fun w u59 h => w_st1 h 3 [u59] rfl One67 rfl rfl rfl rfl (h.ownAt 7 rfl).one fun w h => wl_nil (inBlock_normal (then_loop ?_))
      exact jend (u59, (y15 ++ [(⟨y39.1, y52.1, []⟩ : Fun)])) ⟨h.cn _, hs⟩
     ·
      refine wc_skip (inBlock_normal (then_loop ?_))
      exact jend (v14, y15) ⟨h.cn _, hs⟩
    ·
     refine wc_region (wl_ok (r_move (v := (strV x18)) rfl) (wl_ok (r_eqls rfl rfl) (wl_ok (r_move (v := (.bool (decide ((x18 : Str) = [102, 117, 110])))) rfl) (c_split (b := decide ((x18 : Str) = [102, 117, 110])) hs (fun c60 hs => ?_) (fun c60 hs => ?_)))))
     ·
      refine wl_on rfl (congrArg Value.bool c60) (wl_ok (r_move (v := (.int .i64 (i17))) rfl) (wl_on rfl (congrArg Value.bool c60) ?_))
      obtain ⟨a61, hs⟩ := o_grd hs
      refine wl_ok (r_add rfl rfl a61) (wl_on rfl (congrArg Value.bool c60) (wl_ok (r_ldB h 2 rfl One153 rfl rfl) (wl_on rfl (congrArg Value.bool c60) (wl_ok (r_len SliceOf153 rfl (h.rdS 1 rfl)) (wl_on rfl (congrArg Value.bool c60) (wl_ok (r_lss rfl rfl) (wl_ok (r_pick (b := true) (v := (.bool (decide (((i17 + 2) : Int) < (y1.length : Int))))) (congrArg Value.bool c60) rfl) (wl_nil (then_loop ?_)))))))))
      exact jend (decide (((i17 + 2) : Int) < (y1.length : Int))) ⟨h.cn _, hs⟩
     ·
      refine wl_off (b' := false) rfl (congrArg Value.bool c60) rfl (wl_off (b' := false) rfl (congrArg Value.bool c60) rfl (wl_off (b' := false) rfl (congrArg Value.bool c60) rfl (wl_off (b' := false) rfl (congrArg Value.bool c60) rfl (wl_off (b' := false) rfl (congrArg Value.bool c60) rfl (wl_ok (r_pick (b := false) (v := (.bool (false))) (congrArg Value.bool c60) rfl) (wl_nil (then_loop ?_)))))))
      exact jend false ⟨h.cn _, hs⟩
  ·
   rw [drop_ge (hik ▸ e21), eachI_nil] at hs
   refine wc_exit (then_exit (then_exit (inBlock_eq (then_normal (wc_seq (wc_seq (wc_region (wl_ok (r_ldB h 3 rfl One67 rfl rfl) (wl_ok (r_len SliceOf67 rfl (h.ownS 7 rfl)) (wl_ok (r_eql rfl rfl) (wl_ok (r_move (v := (.bool (decide (((y15.length : Int) : Int) = 0)))) rfl) (wl_gd0 rfl rfl (fun q => r_ldB h 3 rfl One67 rfl rfl) (wl_gd0 rfl rfl (fun q => r_len SliceOf67 (gvt q) (h.ownS 7 rfl)) (wl_gd0 rfl rfl (fun q => r_gtr (gvt q) rfl) (wl_ok (r_por rfl rfl evc) (wl_nil (then_normal (wc_ifb hs rfl (fun c62 hs => ?_) (fun c62 hs => ?_)))))))))))))))))))
   ·
    refine wc_seq (wc_region (wl_ok (r_assign (v := (.slice none 0 0)) rfl) (wl_ok (r_assign (v := (.int .i64 (1))) rfl) (wl_nil (then_normal (wc_ret (then_ret (fin2 (v1 := (.slice none 0 0)) (v2 := (.int .i64 (1))) Tryz.results77 rfl rfl ?_))))))))
    obtain rfl := Option.some.inj hs
    exact ⟨h.grown, _, rfl, OwnSl.nil, fresh_nil⟩
   ·
    refine wc_skip (then_normal (wc_seq (wc_seq (wc_region (wl_ok (r_ldB h 3 rfl One67 rfl rfl) (wl_ok (r_len SliceOf67 rfl (h.ownS 7 rfl)) (wl_ok (r_move (v := (.int .i64 (0))) rfl) (wl_nil (then_normal (wc_block ?_))))))))))
    have hli64 := (h.ownS 7 rfl).len_le
    refine wc_lp (σ := Nat × Int) (inl [2, 3, 13, 73, 74, 75, 76, 77, 78, 79, 80, 81]) (fun ⟨k63, i64⟩ => [(73, (.int .i64 (i64)))]) (fun ⟨k63, i64⟩ w => SH w0 M BE w (hset [(1, .rd rStr u3 y1), (2, .blk b6 [u3]), (3, .blk b7 [v14]), (7, .own rFun 113 v14 y15)]) ∧ i64 = (k63 : Int) ∧ upto (wandererref_SourceRead_b89 y15) (wandererref_SourceRead_k90 N y1 a y15) i64 (((y15.length : Int)).toNat - k63) () = some r) (fun ⟨k63, i64⟩ => ((y15.length : Int)).toNat - k63) ⟨0, 0⟩ ⟨rfl, trivial⟩ ?_ ?_
    ·
     exact ⟨h.cn _, rfl, hs⟩
    ·
     rintro ⟨k63, i64⟩ w junk ⟨h, hik, hs⟩
     refine wc_seq (wc_region ?_)
     refine wl_ok (r_lss rfl rfl) (wl_nil (then_normal ?_))
     refine wc_seq (wc_if rfl (fun e68 => ?_) (fun e68 => ?_))
     ·
      refine wc_skip (then_normal ?_)
      rw [upto_lt (by have := of_decide_eq_true e68; omega)] at hs
      generalize hnx67 : upto (wandererref_SourceRead_b89 y15) (wandererref_SourceRead_k90 N y1 a y15) (i64 + 1) (((y15.length : Int)).toNat - (k63 + 1)) = nx67 at hs
      have e69r : I64 (i64 + 1) := (by have := of_decide_eq_true e68; have := hli64; exact I64.mk (by omega) (by omega))
      refine wc_seq (wc_block (wc_seq (wc_region ?_)))
      obtain ⟨x70, e71, hs⟩ := o_bind hs
      obtain ⟨b73, q74, i72⟩ := h.ixO 7 rfl SliceOf67 rfl (o_idx e71).1 (o_idx e71).2
      refine wl_ok (i72 _ _ _ _ _ _ _ _ _ rfl rfl) ?_
      obtain ⟨cs75, m76, r77⟩ := h.elO 7 rfl q74 (o_idx e71).2
      obtain ⟨u78, rfl, g79⟩ := rFun_open r77
      replace h := h.knowRd 12 g79
      refine wl_ok (r_ldAN (k := 0) (vs := [(.int .i64 (x70.params)), (.int .i64 (x70.locals)), u78]) m76 Many113 rfl rfl rfl (Nat.le_of_ble_eq_true rfl)) (w_allocN h 13 Many113 fun w b80 h => w_stN (vs := [(.int .i64 (x70.params)), (.int .i64 (x70.locals)), u78]) h 13 [(.int .i64 (x70.params)), (.int .i64 (x70.locals)), u78] rfl Many113 rfl rfl rfl rfl rfl (ones_cons rfl (ones_cons rfl (ones_cons (h.rdAt 12 rfl).one ones_nil))) fun w h => wl_nil (then_normal (wc_seq (wc_region (wl_ok (r_fieldAddr Fld113x0 rfl) (wl_ok (r_ldB h 13 rfl One3 rfl rfl) (w_call fnOk51 rfl rfl (wandererref_in_c _ _ h.lt x70.params 0 3 _ rfl) ?_)))))))
      rintro _ w ⟨k81, rfl⟩
      refine ⟨_, rfl, ?_⟩
      replace h := h.grow k81
      refine wl_ok (r_notb rfl) (wl_nil (then_normal (wc_ifb hs rfl (fun c82 hs => ?_) (fun c82 hs => ?_))))
      ·
       refine wc_seq (wc_region (wl_ok (r_assign (v := (.slice none 0 0)) rfl) (wl_ok (r_assign (v := (.int .i64 (1))) rfl) (wl_nil (then_normal (wc_ret (inBlock_ret (then_ret (then_ret (inBlock_ret (then_ret (fin2 (v1 := (.slice none 0 0)) (v2 := (.int .i64 (1))) Tryz.results77 rfl rfl ?_))))))))))))
       obtain rfl := Option.some.inj hs
       exact ⟨h.grown, _, rfl, OwnSl.nil, fresh_nil⟩
      ·
       refine wc_skip (inBlock_normal (then_normal (wc_region (wl_ok (r_add rfl rfl e69r) (wl_ok (r_move (v := (.int .i64 ((i64 + 1)))) rfl) (wl_nil (then_loop ?_)))))))
       subst hnx67
       exact lend ⟨k63 + 1, i64 + 1⟩ ⟨h.cn _, by omega, hs⟩ (by have := of_decide_eq_true e68; dsimp only; omega)
     ·
      rw [upto_ge (by have := of_decide_eq_false e68; omega)] at hs
      refine wc_exit (then_exit (then_exit (inBlock_eq (then_normal (wc_seq (wc_region (w_alloc1 h 14 One3 fun w b83 h => w_st1 h 14 [(.int .i64 (0))] rfl One3 rfl rfl rfl rfl rfl fun w h => wl_nil (then_normal (wc_seq (wc_region (w_alloc1 h 15 One4 fun w b84 h => w_st1 h 15 [(.bool (true))] rfl One4 rfl rfl rfl rfl rfl fun w h => wl_nil (then_normal (wc_seq (wc_region (wl_ok (r_makeFunc (c1 := []) (c2 := [(.pointer (some ⟨b83, 0, none⟩)), (.pointer (some ⟨b6, 0, none⟩)), (.pointer (some ⟨b84, 0, none⟩))]) rfl rfl) (w_alloc1 h 16 One159 fun w b85 h => w_st1 h 16 [(.func (.func 103) #[] #[(.pointer (some ⟨b83, 0, none⟩)), (.pointer (some ⟨b6, 0, none⟩)), (.pointer (some ⟨b84, 0, none⟩))])] rfl One159 rfl rfl rfl rfl rfl fun w h => wl_nil (then_normal ?_)))))))))))))))))
      refine wc_seq (wc_region (wl_ok (r_makeFunc (c1 := []) (c2 := [(.pointer (some ⟨b84, 0, none⟩)), (.pointer (some ⟨b85, 0, none⟩)), (.pointer (some ⟨b7, 0, none⟩))]) rfl rfl) (w_alloc1 h 17 One165 fun w b86 h => w_st1 h 17 [(.func (.func 104) #[] #[(.pointer (some ⟨b84, 0, none⟩)), (.pointer (some ⟨b85, 0, none⟩)), (.pointer (some ⟨b7, 0, none⟩))])] rfl One165 rfl rfl rfl rfl rfl fun w h => wl_nil (then_normal (wc_seq (wc_region (w_alloc1 h 18 One166 fun w b87 h => wl_nil (then_normal (wc_seq (wc_region (wl_ok (r_makeFunc (c1 := []) (c2 := [(.pointer (some ⟨b85, 0, none⟩)), (.pointer (some ⟨b84, 0, none⟩)), (.pointer (some ⟨b86, 0, none⟩)), (.pointer (some ⟨b87, 0, none⟩))]) rfl rfl) (w_st1 h 18 [(.func (.func 109) #[] #[(.pointer (some ⟨b85, 0, none⟩)), (.pointer (some ⟨b84, 0, none⟩)), (.pointer (some ⟨b86, 0, none⟩)), (.pointer (some ⟨b87, 0, none⟩))])] rfl One166 rfl rfl rfl rfl rfl fun w h => wl_nil (then_normal (wc_seq (wc_seq (wc_region (wl_ok (r_ldB h 3 rfl One67 rfl rfl) (wl_ok (r_len SliceOf67 rfl (h.ownS 7 rfl)) (wl_ok (r_move (v := (.int .i64 (0))) rfl) ?_)))))))))))))))))))
      refine wl_nil (then_normal (wc_block ?_))
      have hli101 := (h.ownS 7 rfl).len_le
      refine wc_lp (σ := Nat × Int × List Fun × Int × Bool) (inl [19, 87, 88, 89, 90, 91, 92, 93, 94, 95, 96, 97, 98, 99, 100, 101, 102, 103]) (fun ⟨k100, i101, y97, y98, y99⟩ => [(87, (.int .i64 (i101)))]) (fun ⟨k100, i101, y97, y98, y99⟩ w => SH w0 M BE w (hset [(1, .rd rStr u3 y1), (2, .blk b6 [u3]), (3, .blk b7 [v14]), (7, .own rFun 113 v14 y97), (14, .blk b83 [(.int .i64 (y98))]), (15, .blk b84 [(.bool (y99))]), (16, .blk b85 [(.func (.func 103) #[] #[(.pointer (some ⟨b83, 0, none⟩)), (.pointer (some ⟨b6, 0, none⟩)), (.pointer (some ⟨b84, 0, none⟩))])]), (17, .blk b86 [(.func (.func 104) #[] #[(.pointer (some ⟨b84, 0, none⟩)), (.pointer (some ⟨b85, 0, none⟩)), (.pointer (some ⟨b7, 0, none⟩))])]), (18, .blk b87 [(.func (.func 109) #[] #[(.pointer (some ⟨b85, 0, none⟩)), (.pointer (some ⟨b84, 0, none⟩)), (.pointer (some ⟨b86, 0, none⟩)), (.pointer (some ⟨b87, 0, none⟩))])])]) ∧ i101 = (k100 : Int) ∧ upto (wandererref_SourceRead_b87 N y1) (wandererref_SourceRead_k88 N y1 a) i101 (((y15.length : Int)).toNat - k100) (y97, y98, y99) = some r) (fun ⟨k100, i101, y97, y98, y99⟩ => ((y15.length : Int)).toNat - k100) ⟨0, 0, y15, 0, true⟩ ⟨rfl, trivial⟩ ?_ ?_
      ·
       exact ⟨h.cn _, rfl, hs⟩
      ·
       rintro ⟨k100, i101, y97, y98, y99⟩ w junk ⟨h, hik, hs⟩
       refine wc_seq (wc_region ?_)
       refine wl_ok (r_lss rfl rfl) (wl_nil (then_normal ?_))
       refine wc_seq (wc_if rfl (fun e105 => ?_) (fun e105 => ?_))
       ·
        refine wc_skip (then_normal ?_)
        rw [upto_lt (by have := of_decide_eq_true e105; omega)] at hs
        generalize hnx104 : upto (wandererref_SourceRead_b87 N y1) (wandererref_SourceRead_k88 N y1 a) (i101 + 1) (((y15.length : Int)).toNat - (k100 + 1)) = nx104 at hs
        have e106r : I64 (i101 + 1) := (by have := of_decide_eq_true e105; have := hli101; exact I64.mk (by omega) (by omega))
        refine wc_seq (wc_block (wc_seq (wc_region (wl_ok (r_move (v := (.int .i64 (i101))) rfl) (wl_ok (r_assign (v := (.int .i64 (i101))) rfl) (wl_nil (then_normal (wc_join (σ := Int × Bool) (inl [90, 91, 92]) (fun ⟨y107, y108⟩ => []) (fun ⟨y107, y108⟩ w => SH w0 M BE w (hset [(1, .rd rStr u3 y1), (2, .blk b6 [u3]), (3, .blk b7 [v14]), (7, .own rFun 113 v14 y97), (14, .blk b83 [(.int .i64 (y107))]), (15, .blk b84 [(.bool (y108))]), (16, .blk b85 [(.func (.func 103) #[] #[(.pointer (some ⟨b83, 0, none⟩)), (.pointer (some ⟨b6, 0, none⟩)), (.pointer (some ⟨b84, 0, none⟩))])]), (17, .blk b86 [(.func (.func 104) #[] #[(.pointer (some ⟨b84, 0, none⟩)), (.pointer (some ⟨b85, 0, none⟩)), (.pointer (some ⟨b7, 0, none⟩))])]), (18, .blk b87 [(.func (.func 109) #[] #[(.pointer (some ⟨b85, 0, none⟩)), (.pointer (some ⟨b84, 0, none⟩)), (.pointer (some ⟨b86, 0, none⟩)), (.pointer (some ⟨b87, 0, none⟩))])])]) ∧ wandererref_SourceRead_j81 N y1 y97 i101 nx104 y107 y108 = some r) ?_ ?_))))))))
        ·
         rintro ⟨y107, y108⟩ w junk ⟨h, hs⟩
         refine wc_join (σ := Int × Bool) (inl [93, 94]) (fun ⟨y109, y110⟩ => []) (fun ⟨y109, y110⟩ w => SH w0 M BE w (hset [(1, .rd rStr u3 y1), (2, .blk b6 [u3]), (3, .blk b7 [v14]), (7, .own rFun 113 v14 y97), (14, .blk b83 [(.int .i64 (y109))]), (15, .blk b84 [(.bool (y110))]), (16, .blk b85 [(.func (.func 103) #[] #[(.pointer (some ⟨b83, 0, none⟩)), (.pointer (some ⟨b6, 0, none⟩)), (.pointer (some ⟨b84, 0, none⟩))])]), (17, .blk b86 [(.func (.func 104) #[] #[(.pointer (some ⟨b84, 0, none⟩)), (.pointer (some ⟨b85, 0, none⟩)), (.pointer (some ⟨b7, 0, none⟩))])]), (18, .blk b87 [(.func (.func 109) #[] #[(.pointer (some ⟨b85, 0, none⟩)), (.pointer (some ⟨b84, 0, none⟩)), (.pointer (some ⟨b86, 0, none⟩)), (.pointer (some ⟨b87, 0, none⟩))])])]) ∧ wandererref_SourceRead_j82 N y1 y97 i101 nx104 y109 y110 = some r) ?_ ?_
         ·
          rintro ⟨y109, y110⟩ w junk ⟨h, hs⟩
          refine wc_join (σ := Int × Bool) (inl [95, 96]) (fun ⟨y111, y112⟩ => []) (fun ⟨y111, y112⟩ w => SH w0 M BE w (hset [(1, .rd rStr u3 y1), (2, .blk b6 [u3]), (3, .blk b7 [v14]), (7, .own rFun 113 v14 y97), (14, .blk b83 [(.int .i64 (y111))]), (15, .blk b84 [(.bool (y112))]), (16, .blk b85 [(.func (.func 103) #[] #[(.pointer (some ⟨b83, 0, none⟩)), (.pointer (some ⟨b6, 0, none⟩)), (.pointer (some ⟨b84, 0, none⟩))])]), (17, .blk b86 [(.func (.func 104) #[] #[(.pointer (some ⟨b84, 0, none⟩)), (.pointer (some ⟨b85, 0, none⟩)), (.pointer (some ⟨b7, 0, none⟩))])]), (18, .blk b87 [(.func (.func 109) #[] #[(.pointer (some ⟨b85, 0, none⟩)), (.pointer (some ⟨b84, 0, none⟩)), (.pointer (some ⟨b86, 0, none⟩)), (.pointer (some ⟨b87, 0, none⟩))])])]) ∧ wandererref_SourceRead_j83 N y1 y97 i101 nx104 y111 y112 = some r) ?_ ?_
          ·
           rintro ⟨y111, y112⟩ w junk ⟨h, hs⟩
           refine wck_held (L := (fun b => b = b83 ∨ b = b84 ∨ ob v14 b)) mixed h fun w h => whk_ok 0 (Keep.refl _ _) rfl want_none (by kernel_rfl) (by kernel_rfl) (by kernel_rfl) (fun w hk => have h := h.loseC3 14 15 7 (by decide) (by decide) (by decide) rfl rfl rfl hk; r_ldB h 3 rfl One67 rfl rfl) (whk_ok 1 (Keep.refl _ _) rfl want_none (by kernel_rfl) (by kernel_rfl) (by kernel_rfl) (fun w hk => r_move (v := (.int .i64 (i101))) rfl) (whk_ok 2 (Keep.refl _ _) rfl want_none (by kernel_rfl) (by kernel_rfl) (by kernel_rfl) (fun w hk => have h := h.loseC3 14 15 7 (by decide) (by decide) (by decide) rfl rfl rfl hk; r_ldB h 18 rfl One166 rfl rfl) ?_))
           obtain ⟨ws123, ws123e⟩ : ∃ x, x = w := ⟨_, rfl⟩
           have hg124 : Keep (fun b => b = b83 ∨ b = b84 ∨ ob v14 b) ws123 w := ws123e ▸ Keep.refl (fun b => b = b83 ∨ b = b84 ∨ ob v14 b) w
           refine whk_at ws123e.symm (whk_eff 3 (by kernel_rfl) rfl want_none ?_)
           replace h := h.pair 14 15 (by decide)
           obtain ⟨lq122x3_1a, lq122x3_1b, lq122x3_1c⟩ := h.lendS 14 (C := (.two (.blk b83 [(.int .i64 (y111))]) (.blk b84 [(.bool (y112))]) : Chunk)) rfl ⟨trivial, trivial⟩
           obtain ⟨yq122x3_2, eq122x3_3, hs⟩ := o_bind hs
           refine w_call fnOk109 rfl rfl (srdBlock_c N _ _ lq122x3_1c (hT.go h.keep) b83 b84 b6 b85 b7 b86 b87 (⟨y111, y112⟩ : RdSt) lq122x3_1a lq122x3_1b u3 y1 (h.rdC 14 1 rfl rfl) v14 y97 (h.ownSr 14 7 (by decide) rfl rfl) (h.blkAt 2 rfl) (fun hb => h.apart 14 2 (by decide) _ hb rfl) (h.blkAt 16 rfl) (fun hb => h.apart 14 16 (by decide) _ hb rfl) (h.blkAt 3 rfl) (fun hb => h.apart 14 3 (by decide) _ hb rfl) (h.blkAt 17 rfl) (fun hb => h.apart 14 17 (by decide) _ hb rfl) (h.blkAt 18 rfl) (fun hb => h.apart 14 18 (by decide) _ hb rfl) 1 (h.aboveG hT (fun _ h => h.elim) 14 (C := (.two (.blk b83 [(.int .i64 (y111))]) (.blk b84 [(.bool (y112))]) : Chunk)) rfl) _ eq122x3_3) ?_
           rintro _ w ⟨kq122x3_6, uq122x3_4, rfl, hq122x3_7, hq122x3_8, gq122x3_5⟩
           refine ⟨_, rfl, ?_⟩
           replace h := h.back 14 (C := (.two (.blk b83 [(.int .i64 (y111))]) (.blk b84 [(.bool (y112))]) : Chunk)) (C' := (.two (.blk b83 [(.int .i64 (yq122x3_2.2.at_))]) (.blk b84 [(.bool (yq122x3_2.2.ok))]) : Chunk)) rfl ⟨trivial, trivial⟩ hq122x3_7 kq122x3_6 hq122x3_8
           replace h := h.knowRd 55 (backRd gq122x3_5)
           replace h := h.unpair 14 15 (by decide) rfl rfl
           replace hg124 := Keep.step hg124 kq122x3_6 (fun _ hx _ => hx.elim (fun hx => .inl (hx)) (fun hx => .inr (.inl (hx))))
           refine wl_nil (whk_back hg124 ?_)
           obtain ⟨xq122x4_1, eq122x4_2, hs⟩ := o_bind hs
           obtain ⟨bq122x4_4, qq122x4_5, iq122x4_3⟩ := h.ixO 7 rfl SliceOf67 rfl (o_idx eq122x4_2).1 (o_idx eq122x4_2).2
           refine whk_ok 4 hg124 rfl want_none (by kernel_rfl) (by kernel_rfl) (by kernel_rfl) (fun w hk => iq122x4_3 _ _ _ _ _ _ _ _ _ rfl rfl) (whk_ok 5 hg124 rfl want_none (by kernel_rfl) (by kernel_rfl) (by kernel_rfl) (fun w hk => r_fieldAddr Fld113x2 rfl) (whk_eff 6 (by kernel_rfl) rfl want_none (w_stOG (a' := { xq122x4_1 with body := yq122x3_2.1 }) h 7 rfl qq122x4_5 rfl (o_idx eq122x4_2).2 One111 rfl rfl (h.rdAt 55 rfl).one rfl (by rintro _ hq; obtain ⟨p2, rfl, q2⟩ := rFun_open hq; exact ⟨_, rfl, (h.rdAt 55 rfl)⟩) fun w h kq122x6_1 => ?_)))
           replace hg124 := Keep.step hg124 kq122x6_1 (fun _ hx _ => .inr (.inr (hx)))
           refine wl_nil (whk_back hg124 (whk_done (by kernel_rfl) (inBlock_normal (then_normal (wc_region (wl_ok (r_add rfl rfl e106r) (wl_ok (r_move (v := (.int .i64 ((i101 + 1)))) rfl) (wl_nil (then_loop ?_)))))))))
           subst hnx104
           exact lend ⟨k100 + 1, i101 + 1, (y97.set (i101).toNat { xq122x4_1 with body := yq122x3_2.1 }), yq122x3_2.2.at_, yq122x3_2.2.ok⟩ ⟨h.cn _, by omega, hs⟩ (by have := of_decide_eq_true e105; dsimp only; omega)
          ·
           refine wc_region (wl_ok (r_ldB h 16 rfl One159 rfl rfl) (w_callIn (args := [(.pointer (some ⟨b83, 0, none⟩)), (.pointer (some ⟨b6, 0, none⟩)), (.pointer (some ⟨b84, 0, none⟩))]) fnOk103 rfl rfl (calls_start (args := [(.pointer (some ⟨b83, 0, none⟩)), (.pointer (some ⟨b6, 0, none⟩)), (.pointer (some ⟨b84, 0, none⟩))]) Tryz.func103 rfl Tryz.ntmps103 (Nat.le_of_ble_eq_true rfl) (wc_seq (wc_region (wl_ok (r_assign (v := (strV [])) rfl) (wl_nil (then_normal (wc_seq (wc_seq (wc_region (wl_ok (r_ldB h 14 rfl One3 rfl rfl) (wl_ok (r_ldB h 2 rfl One153 rfl rfl) (wl_ok (r_len SliceOf153 rfl (h.rdS 1 rfl)) (wl_ok (r_geq rfl rfl) (wl_nil (then_normal (wc_ifb hs rfl (fun c125 hs => ?_) (fun c125 hs => ?_)))))))))))))))))))
           ·
            refine wc_seq (wc_region (w_st1 h 15 [(.bool (false))] rfl One4 rfl rfl rfl rfl rfl fun w h => wl_nil (then_normal (wc_seq (wc_region (wl_ok (r_assign (v := (strV [])) rfl) (wl_nil (then_normal (wc_ret (then_ret (fin1 (v := (strV [])) Tryz.results103 rfl (⟨_, rfl, ?_⟩))))))))))))
            refine wl_nil (then_loop ?_)
            exact jend (y109, false) ⟨h.cn _, hs⟩
           ·
            refine wc_skip (then_normal (wc_seq (wc_region (wl_ok (r_ldB h 14 rfl One3 rfl rfl) ?_))))
            obtain ⟨a126, hs⟩ := o_grd hs
            refine wl_ok (r_add rfl rfl a126) (w_st1 h 14 [(.int .i64 ((y109 + 1)))] rfl One3 rfl rfl rfl rfl rfl fun w h => wl_nil (then_normal (wc_seq (wc_region (wl_ok (r_ldB h 2 rfl One153 rfl rfl) (wl_ok (r_ldB h 14 rfl One3 rfl rfl) ?_))))))
            obtain ⟨a127, hs⟩ := o_grd hs
            refine wl_ok (r_sub rfl rfl a127) ?_
            obtain ⟨x128, e129, hs⟩ := o_bind hs
            obtain ⟨b131, o132, cs133, h, r134, i130⟩ := h.ixR 1 115 rfl SliceOf153 rfl (o_idx e129).1 (o_idx e129).2
            obtain rfl := r134
            refine wl_ok (i130 _ _ _ _ _ _ _ _ _ rfl rfl) (wl_ok (r_ldP (k := 0) h 115 rfl One9 rfl rfl) (wl_ok (r_assign (v := (strV x128)) rfl) (wl_nil (then_normal (wc_ret (fin1 (v := (strV x128)) Tryz.results103 rfl (⟨_, rfl, ?_⟩)))))))
            refine wl_nil (then_loop ?_)
            exact jend ((y109 + 1), y110) ⟨h.cn _, hs⟩
         ·
          refine wc_region (wl_ok (r_ldB h 16 rfl One159 rfl rfl) (w_callIn (args := [(.pointer (some ⟨b83, 0, none⟩)), (.pointer (some ⟨b6, 0, none⟩)), (.pointer (some ⟨b84, 0, none⟩))]) fnOk103 rfl rfl (calls_start (args := [(.pointer (some ⟨b83, 0, none⟩)), (.pointer (some ⟨b6, 0, none⟩)), (.pointer (some ⟨b84, 0, none⟩))]) Tryz.func103 rfl Tryz.ntmps103 (Nat.le_of_ble_eq_true rfl) (wc_seq (wc_region (wl_ok (r_assign (v := (strV [])) rfl) (wl_nil (then_normal (wc_seq (wc_seq (wc_region (wl_ok (r_ldB h 14 rfl One3 rfl rfl) (wl_ok (r_ldB h 2 rfl One153 rfl rfl) (wl_ok (r_len SliceOf153 rfl (h.rdS 1 rfl)) (wl_ok (r_geq rfl rfl) (wl_nil (then_normal (wc_ifb hs rfl (fun c135 hs => ?_) (fun c135 hs => ?_)))))))))))))))))))
          ·
           refine wc_seq (wc_region (w_st1 h 15 [(.bool (false))] rfl One4 rfl rfl rfl rfl rfl fun w h => wl_nil (then_normal (wc_seq (wc_region (wl_ok (r_assign (v := (strV [])) rfl) (wl_nil (then_normal (wc_ret (then_ret (fin1 (v := (strV [])) Tryz.results103 rfl (⟨_, rfl, ?_⟩))))))))))))
           refine wl_nil (then_loop ?_)
           exact jend (y107, false) ⟨h.cn _, hs⟩
          ·
           refine wc_skip (then_normal (wc_seq (wc_region (wl_ok (r_ldB h 14 rfl One3 rfl rfl) ?_))))
           obtain ⟨a136, hs⟩ := o_grd hs
           refine wl_ok (r_add rfl rfl a136) (w_st1 h 14 [(.int .i64 ((y107 + 1)))] rfl One3 rfl rfl rfl rfl rfl fun w h => wl_nil (then_normal (wc_seq (wc_region (wl_ok (r_ldB h 2 rfl One153 rfl rfl) (wl_ok (r_ldB h 14 rfl One3 rfl rfl) ?_))))))
           obtain ⟨a137, hs⟩ := o_grd hs
           refine wl_ok (r_sub rfl rfl a137) ?_
           obtain ⟨x138, e139, hs⟩ := o_bind hs
           obtain ⟨b141, o142, cs143, h, r144, i140⟩ := h.ixR 1 116 rfl SliceOf153 rfl (o_idx e139).1 (o_idx e139).2
           obtain rfl := r144
           refine wl_ok (i140 _ _ _ _ _ _ _ _ _ rfl rfl) (wl_ok (r_ldP (k := 0) h 116 rfl One9 rfl rfl) (wl_ok (r_assign (v := (strV x138)) rfl) (wl_nil (then_normal (wc_ret (fin1 (v := (strV x138)) Tryz.results103 rfl (⟨_, rfl, ?_⟩)))))))
           refine wl_nil (then_loop ?_)
           exact jend ((y107 + 1), y108) ⟨h.cn _, hs⟩
        ·
         refine wc_join (σ := Bool × Int × Bool) (inl [90, 91, 92]) (fun ⟨x145, y146, y147⟩ => [(92, (.bool (x145)))]) (fun ⟨x145, y146, y147⟩ w => SH w0 M BE w (hset [(1, .rd rStr u3 y1), (2, .blk b6 [u3]), (3, .blk b7 [v14]), (7, .own rFun 113 v14 y97), (14, .blk b83 [(.int .i64 (y146))]), (15, .blk b84 [(.bool (y147))]), (16, .blk b85 [(.func (.func 103) #[] #[(.pointer (some ⟨b83, 0, none⟩)), (.pointer (some ⟨b6, 0, none⟩)), (.pointer (some ⟨b84, 0, none⟩))])]), (17, .blk b86 [(.func (.func 104) #[] #[(.pointer (some ⟨b84, 0, none⟩)), (.pointer (some ⟨b85, 0, none⟩)), (.pointer (some ⟨b7, 0, none⟩))])]), (18, .blk b87 [(.func (.func 109) #[] #[(.pointer (some ⟨b85, 0, none⟩)), (.pointer (some ⟨b84, 0, none⟩)), (.pointer (some ⟨b86, 0, none⟩)), (.pointer (some ⟨b87, 0, none⟩))])])]) ∧ wandererref_SourceRead_j84 N y1 y97 i101 nx104 x145 y146 y147 = some r) ?_ ?_
         ·
          rintro ⟨x145, y146, y147⟩ w junk ⟨h, hs⟩
          refine wc_ifb hs rfl (fun c148 hs => ?_) (fun c148 hs => ?_)
          ·
           refine wc_region (w_st1 h 15 [(.bool (false))] rfl One4 rfl rfl rfl rfl rfl fun w h => wl_nil (then_loop ?_))
           exact jend (y146, false) ⟨h.cn _, hs⟩
          ·
           refine wc_skip (then_loop ?_)
           exact jend (y146, y147) ⟨h.cn _, hs⟩
         ·
          refine wc_region (wl_ok (r_ldB h 16 rfl One159 rfl rfl) (w_callIn (args := [(.pointer (some ⟨b83, 0, none⟩)), (.pointer (some ⟨b6, 0, none⟩)), (.pointer (some ⟨b84, 0, none⟩))]) fnOk103 rfl rfl (calls_start (args := [(.pointer (some ⟨b83, 0, none⟩)), (.pointer (some ⟨b6, 0, none⟩)), (.pointer (some ⟨b84, 0, none⟩))]) Tryz.func103 rfl Tryz.ntmps103 (Nat.le_of_ble_eq_true rfl) (wc_seq (wc_region (wl_ok (r_assign (v := (strV [])) rfl) (wl_nil (then_normal (wc_seq (wc_seq (wc_region (wl_ok (r_ldB h 14 rfl One3 rfl rfl) (wl_ok (r_ldB h 2 rfl One153 rfl rfl) (wl_ok (r_len SliceOf153 rfl (h.rdS 1 rfl)) (wl_ok (r_geq rfl rfl) (wl_nil (then_normal (wc_ifb hs rfl (fun c149 hs => ?_) (fun c149 hs => ?_)))))))))))))))))))
          ·
           refine wc_seq (wc_region (w_st1 h 15 [(.bool (false))] rfl One4 rfl rfl rfl rfl rfl fun w h => wl_nil (then_normal (wc_seq (wc_region (wl_ok (r_assign (v := (strV [])) rfl) (wl_nil (then_normal (wc_ret (then_ret (fin1 (v := (strV [])) Tryz.results103 rfl (⟨_, rfl, ?_⟩))))))))))))
           refine wl_ok (r_neqs rfl rfl) (wl_nil (then_loop ?_))
           exact jend (true, y98, false) ⟨h.cn _, hs⟩
          ·
           refine wc_skip (then_normal (wc_seq (wc_region (wl_ok (r_ldB h 14 rfl One3 rfl rfl) ?_))))
           obtain ⟨a150, hs⟩ := o_grd hs
           refine wl_ok (r_add rfl rfl a150) (w_st1 h 14 [(.int .i64 ((y98 + 1)))] rfl One3 rfl rfl rfl rfl rfl fun w h => wl_nil (then_normal (wc_seq (wc_region (wl_ok (r_ldB h 2 rfl One153 rfl rfl) (wl_ok (r_ldB h 14 rfl One3 rfl rfl) ?_))))))
           obtain ⟨a151, hs⟩ := o_grd hs
           refine wl_ok (r_sub rfl rfl a151) ?_
           obtain ⟨x152, e153, hs⟩ := o_bind hs
           obtain ⟨b155, o156, cs157, h, r158, i154⟩ := h.ixR 1 117 rfl SliceOf153 rfl (o_idx e153).1 (o_idx e153).2
           obtain rfl := r158
           refine wl_ok (i154 _ _ _ _ _ _ _ _ _ rfl rfl) (wl_ok (r_ldP (k := 0) h 117 rfl One9 rfl rfl) (wl_ok (r_assign (v := (strV x152)) rfl) (wl_nil (then_normal (wc_ret (fin1 (v := (strV x152)) Tryz.results103 rfl (⟨_, rfl, ?_⟩)))))))
           refine wl_ok (r_neqs rfl rfl) (wl_nil (then_loop ?_))
           exact jend (decide ((x152 : Str) ≠ [102, 117, 110]), (y98 + 1), y99) ⟨h.cn _, hs⟩
       ·
        rw [upto_ge (by have := of_decide_eq_false e105; omega)] at hs
        refine wc_exit (then_exit (then_exit (inBlock_eq (then_normal (wc_seq (wc_join (σ := Bool) (inl [104, 105, 106, 107, 108, 109, 110, 111, 112, 113, 114, 115, 116, 117, 118, 119, 120, 121, 122]) (fun x159 => [(122, (.bool (x159)))]) (fun x159 w => SH w0 M BE w (hset [(3, .blk b7 [v14]), (7, .own rFun 113 v14 y97)]) ∧ wandererref_SourceRead_j86 y97 x159 = some r) ?_ ?_))))))
        ·
         rintro x159 w junk ⟨h, hs⟩
         refine wc_ifb hs rfl (fun c160 hs => ?_) (fun c160 hs => ?_)
         ·
          refine wc_seq (wc_region (wl_ok (r_assign (v := (.slice none 0 0)) rfl) (wl_ok (r_assign (v := (.int .i64 (1))) rfl) (wl_nil (then_normal (wc_ret (then_ret (fin2 (v1 := (.slice none 0 0)) (v2 := (.int .i64 (1))) Tryz.results77 rfl rfl ?_))))))))
          obtain rfl := Option.some.inj hs
          exact ⟨h.grown, _, rfl, OwnSl.nil, fresh_nil⟩
         ·
          refine wc_skip (then_normal (wc_seq (wc_region (wl_ok (r_ldB h 3 rfl One67 rfl rfl) (wl_ok (r_assign (v := v14) rfl) (wl_ok (r_assign (v := (.int .i64 (0))) rfl) (wl_nil (then_normal (wc_ret (fin2 (v1 := v14) (v2 := (.int .i64 (0))) Tryz.results77 rfl rfl ?_))))))))))
          obtain rfl := Option.some.inj hs
          exact ⟨h.grown, _, rfl, (h.outOwn 7 rfl).1, (h.outOwn 7 rfl).2⟩
        ·
         refine wc_region (wl_ok (r_ldB h 15 rfl One4 rfl rfl) (wl_ok (r_notb rfl) (wl_ok (r_move (v := (.bool ((!y99)))) rfl) (wl_gd0 rfl rfl (fun q => r_ldB h 14 rfl One3 rfl rfl) (wl_gd0 rfl rfl (fun q => r_ldB h 2 rfl One153 rfl rfl) (wl_gd0 rfl rfl (fun q => r_len SliceOf153 (gvt q) (h.rdS 1 rfl)) (wl_gd0 rfl rfl (fun q => r_lss (gvt q) (gvt q)) (wl_ok (r_por rfl rfl evc) (wl_ok (r_move (v := (.bool (((!y99) || decide ((y98 : Int) < (y1.length : Int)))))) rfl) (c_split (b := ((!y99) || decide ((y98 : Int) < (y1.length : Int)))) hs (fun c161 hs => ?_) (fun c161 hs => ?_)))))))))))
         ·
          refine wl_off (b' := true) rfl (congrArg Value.bool c161) rfl (wl_off (b' := true) rfl (congrArg Value.bool c161) rfl (wl_off (b' := true) rfl (congrArg Value.bool c161) rfl (wl_ok (r_pick (b := true) (v := (.bool (true))) (congrArg Value.bool c161) rfl) (wl_ok (r_move (v := (.bool (true))) rfl) (wl_off (b' := true) rfl rfl rfl (wl_off (b' := true) rfl rfl rfl (wl_off (b' := true) rfl rfl rfl (wl_off (b' := true) rfl rfl rfl (wl_ok (r_pick (b := true) (v := (.bool (true))) rfl rfl) (wl_nil (then_loop ?_)))))))))))
          exact jend true ⟨h.cn _, hs⟩
         ·
          refine wl_on rfl (congrArg Value.bool c161) (wl_ok (r_ldB h 3 rfl One67 rfl rfl) (wl_on rfl (congrArg Value.bool c161) ?_))
          obtain ⟨y162, e163, hs⟩ := o_bind hs
          refine w_call fnOk112 rfl rfl (wandererref_CheckSource_c N _ _ h.lt v14 y97 (h.ownS 7 rfl) _ e163) ?_
          rintro _ w ⟨k164, rfl⟩
          refine ⟨_, rfl, ?_⟩
          replace h := h.grow k164
          refine wl_on rfl (congrArg Value.bool c161) (wl_ok (r_neq rfl rfl) (wl_ok (r_pick (b := false) (v := (.bool (decide ((y162 : Int) ≠ 0)))) (congrArg Value.bool c161) rfl) (wl_ok (r_move (v := (.bool (decide ((y162 : Int) ≠ 0)))) rfl) (c_split (b := decide ((y162 : Int) ≠ 0)) hs (fun c165 hs => ?_) (fun c165 hs => ?_)))))
          ·
           refine wl_off (b' := true) rfl (congrArg Value.bool c165) rfl (wl_off (b' := true) rfl (congrArg Value.bool c165) rfl (wl_off (b' := true) rfl (congrArg Value.bool c165) rfl (wl_off (b' := true) rfl (congrArg Value.bool c165) rfl (wl_ok (r_pick (b := true) (v := (.bool (true))) (congrArg Value.bool c165) rfl) (wl_nil (then_loop ?_))))))
           exact jend true ⟨h.cn _, hs⟩
          ·
           refine wl_on rfl (congrArg Value.bool c165) (wl_ok (r_ldB h 3 rfl One67 rfl rfl) (wl_on rfl (congrArg Value.bool c165) ?_))
           obtain ⟨y166, e167, hs⟩ := o_bind hs
           refine w_call fnOk113 rfl rfl (wandererref_SourceText_c N _ _ h.lt (hT.go h.keep) v14 y97 (h.ownS 7 rfl) _ e167) ?_
           rintro _ w ⟨k168, rfl⟩
           refine ⟨_, rfl, ?_⟩
           replace h := h.grow k168
           refine wl_on rfl (congrArg Value.bool c165) (wl_ok (r_move (v := (strV a)) rfl) (wl_on rfl (congrArg Value.bool c165) (wl_ok (r_neqs rfl rfl) (wl_ok (r_pick (b := false) (v := (.bool (decide ((y166 : Str) ≠ a)))) (congrArg Value.bool c165) rfl) (wl_nil (then_loop ?_))))))
           exact jend (decide ((y166 : Str) ≠ a)) ⟨h.cn _, hs⟩
def wandererlaw_program (N : Nat) : Option (List Fun) :=
  (wandererref_SourceRead N [102, 117, 110, 32, 48, 32, 49, 32, 123, 32, 115, 101, 116, 32, 48, 32, 51, 32, 119, 104, 105, 108, 101, 32, 118, 48, 32, 123, 32, 115, 97, 121, 32, 102, 49, 32, 118, 48, 32, 118, 48, 32, 103, 111, 32, 118, 48, 32, 112, 97, 117, 115, 101, 32, 115, 101, 116, 32, 48, 32, 45, 32, 118, 48, 32, 49, 32, 125, 32, 125, 32, 102, 117, 110, 32, 50, 32, 50, 32, 123, 32, 114, 101, 116, 117, 114, 110, 32, 42, 32, 118, 48, 32, 118, 49, 32, 125]).bind fun y1 => some y1.1
theorem wandererlaw_program_c (N : Nat) (w0 : World) (M : BS) (hM : ∀ b, M b → b < w0.heap.size) (hT : Tabs Tryz.prog 4 w0)  (r : List Fun) (hs : wandererlaw_program N = some r) :
    Calls Tryz.prog 40 #[] w0 (fun e w' => Grow w0 w' ∧ ∃ u0, e = .returned (u0) ∧ OwnSl rFun 113 w' M u0 r ∧ (∀ b, ob u0 b → w0.heap.size ≤ b)) := by
 refine calls_start (args := []) Tryz.func40 rfl Tryz.ntmps40 (Nat.le_of_ble_eq_true rfl) ?_
 have h := SH.init hM
 refine wc_seq (wc_region (wl_ok (r_assign (v := (.slice none 0 0)) rfl) (wl_nil (then_normal (wc_seq (wc_region ?_))))))
 obtain ⟨y1, e2, hs⟩ := o_bind hs
 refine w_call fnOk77 rfl rfl (wandererref_SourceRead_c N _ _ h.lt (hT.go h.keep) [102, 117, 110, 32, 48, 32, 49, 32, 123, 32, 115, 101, 116, 32, 48, 32, 51, 32, 119, 104, 105, 108, 101, 32, 118, 48, 32, 123, 32, 115, 97, 121, 32, 102, 49, 32, 118, 48, 32, 118, 48, 32, 103, 111, 32, 118, 48, 32, 112, 97, 117, 115, 101, 32, 115, 101, 116, 32, 48, 32, 45, 32, 118, 48, 32, 49, 32, 125, 32, 125, 32, 102, 117, 110, 32, 50, 32, 50, 32, 123, 32, 114, 101, 116, 117, 114, 110, 32, 42, 32, 118, 48, 32, 118, 49, 32, 125] _ e2) ?_
 rintro _ w ⟨k6, u3, rfl, g4, g5⟩
 refine ⟨_, rfl, ?_⟩
 replace h := h.gotOwn 1 k6 g4 g5
 refine wl_ok (r_move (v := (.tuple #[u3, (.int .i64 (y1.2))])) rfl) (wl_ok (r_extract rfl rfl) (wl_ok (r_extract rfl rfl) (wl_ok (r_assign (v := u3) rfl) (wl_ok (r_assign (v := (.int .i64 (y1.2))) rfl) (wl_nil (then_normal (wc_seq (wc_region (wl_ok (r_move (v := u3) rfl) (wl_ok (r_assign (v := u3) rfl) (wl_nil (then_normal (wc_ret (fin1 (v := u3) Tryz.results40 rfl ?_))))))))))))))
 obtain rfl := Option.some.inj hs
 exact ⟨h.grown, _, rfl, (h.outOwn 1 rfl).1, (h.outOwn 1 rfl).2⟩
def wandererref_valued_j2 (x31 : List Ins) (c : Int) (x34 : Int) (y65 : Int) (y66 : Int) (y67 : Int) (y69 : List Int) : Option (List Ins × Int) :=
  grd (Room 56 x31 [(⟨y65, c, y66, y67, y69⟩ : Ins)]) (some ((x31 ++ [(⟨y65, c, y66, y67, y69⟩ : Ins)]), x34))
def wandererref_valued_b3 (F0 : List Tok → List Fun → Int → Option (List Ins × Int)) (y9 : Int) (a : List Tok) (c : Int) (b : List Fun) (x1 : Tok) (s : List Ins × List Int × Int × Int) (nx40 : List Ins × List Int × Int × Int → Option (List Ins × Int)) : Option (List Ins × Int) :=
  match s with | (x31, x33, x34, x35) => bif decide ((x35 : Int) < y9) then (sub? a x34 (a.length : Int)).bind fun x44 => grd (I64 (c + x35)) ((F0 x44 b (c + x35)).bind fun y50 => grd (Room 56 x31 y50.1) (grd (I64 (x34 + y50.2)) (grd (I64 (c + x35)) (grd (Room 8 x33 [(c + x35)]) (grd (I64 (x35 + 1)) (nx40 ((x31 ++ y50.1), (x33 ++ [(c + x35)]), (x34 + y50.2), (x35 + 1)))))))) else bif decide ((x1.kind : Int) = 1) then wandererref_valued_j2 x31 c x34 1 x1.n 0 [] else bif decide ((x1.kind : Int) = 2) then wandererref_valued_j2 x31 c x34 2 x1.n 0 [] else bif decide ((x1.kind : Int) = 5) then wandererref_valued_j2 x31 c x34 5 x1.n 0 [] else bif decide ((x1.kind : Int) = 3) then grd (I64 (c + 1)) (wandererref_valued_j2 x31 c x34 3 c (c + 1) [x1.n]) else bif decide ((x1.kind : Int) = 4) then wandererref_valued_j2 x31 c x34 4 c x1.n [] else bif decide ((x1.kind : Int) = 6) then wandererref_valued_j2 x31 c x34 7 x1.n 0 x33 else wandererref_valued_j2 x31 c x34 0 x1.n 0 []
def wandererref_valued_r (N : Nat) (F0 : List Tok → List Fun → Int → Option (List Ins × Int)) (a : List Tok) (b : List Fun) (c : Int) : Option (List Ins × Int) :=
  (idx a 0).bind fun x1 => (wandererref_asks x1 b).bind fun y9 => again (wandererref_valued_b3 F0 y9 a c b x1) N ([], [], 1, 0)
def wandererref_valued : Nat → List Tok → List Fun → Int → Option (List Ins × Int)
  | 0 => fun _ _ _ => none
  | N + 1 => wandererref_valued_r N (wandererref_valued N)
theorem wandererref_valued_c : ∀ (N : Nat) (w0 : World) (M : BS) (hM : ∀ b, M b → b < w0.heap.size) (va : Value) (a : List Tok) (ha : Rd2 rTok w0 BE M va a) (vb : Value) (b : List Fun) (hb : Rd2 rFun w0 BE M vb b) (c : Int) (r : List Ins × Int) (hs : wandererref_valued N a b c = some r),
    Calls Tryz.prog 100 #[va, vb, (.int .i64 (c))] w0 (fun e w' => Grow w0 w' ∧ ∃ u0, e = .returned (.tuple #[u0, .int .i64 r.2]) ∧ OwnSl rIns 93 w' M u0 r.1 ∧ (∀ b, ob u0 b → w0.heap.size ≤ b)) := by
  intro N
  induction N with
  | zero => intro w0 M hM va a ha vb b hb c r hs; cases hs
  | succ N ih =>
  intro w0 M hM va a ha vb b hb c r hs
  replace hs : wandererref_valued_r N (wandererref_valued N) a b c = some r := hs
  generalize wandererref_valued N = F0 at hs ih
  refine calls_start (args := [va, vb, (.int .i64 (c))]) Tryz.func100 rfl Tryz.ntmps100 (Nat.le_of_ble_eq_true rfl) ?_
  have h := SH.init hM
  replace h := h.argSr 1 ha none_own
  replace h := h.argSr 2 hb (hupd_own_sr none_own)
  have hl_a := ha.len_le
  have hl_b := hb.len_le
  refine wc_seq (wc_region (wl_ok (r_assign (v := (.slice none 0 0)) rfl) (wl_ok (r_assign (v := (.int .i64 (0))) rfl) (wl_nil (then_normal (wc_seq (wc_region (wl_ok (r_move (v := va) rfl) ?_))))))))
  obtain ⟨x1, e2, hs⟩ := o_bind hs
  obtain ⟨b4, o5, cs6, h, r7, i3⟩ := h.ixS 1 3 rfl SliceOf145 rfl (o_idx e2).1 (o_idx e2).2
  obtain rfl := r7
  refine wl_ok (i3 _ _ _ _ _ _ _ _ _ rfl rfl) (wl_ok (r_ldPN (k := 0) (vs := [(.int .i64 (x1.kind)), (.int .i64 (x1.n))]) h 3 rfl Many160 rfl rfl rfl (Nat.le_of_ble_eq_true rfl)) (w_allocN h 4 Many160 fun w b8 h => w_stN (vs := [(.int .i64 (x1.kind)), (.int .i64 (x1.n))]) h 4 [(.int .i64 (x1.kind)), (.int .i64 (x1.n))] rfl Many160 rfl rfl rfl rfl rfl (ones_cons rfl (ones_cons rfl ones_nil)) fun w h => wl_nil (then_normal (wc_seq (wc_region (wl_ok (r_assign (v := (.slice none 0 0)) rfl) (wl_nil (then_normal (wc_seq (wc_region (wl_ok (r_assign (v := (.slice none 0 0)) rfl) (wl_nil (then_normal (wc_seq (wc_region (wl_ok (r_assign (v := (.int .i64 (1))) rfl) (wl_nil (then_normal (wc_seq (wc_seq (wc_region ?_)))))))))))))))))))))
  refine wl_ok (r_ldBN (vs := [(.int .i64 (x1.kind)), (.int .i64 (x1.n))]) h 4 rfl Many160 rfl rfl rfl) (wl_ok (r_move (v := vb) rfl) ?_)
  obtain ⟨y9, e10, hs⟩ := o_bind hs
  refine w_call fnOk108 rfl rfl (wandererref_asks_c _ _ h.lt x1 vb b (h.srS 2 rfl) _ e10) ?_
  rintro _ w ⟨k11, rfl⟩
  refine ⟨_, rfl, ?_⟩
  replace h := h.grow k11
  refine wl_ok (r_move (v := (.int .i64 (0))) rfl) (wl_nil (then_normal (wc_block ?_)))
  replace h := h.nilO (R := rIns) (E := 93) 11
  replace h := h.nilO (R := rInt) (E := 3) 12
  refine wc_lp (σ := Nat × Value × List Ins × Value × List Int × Int × Int) (inl [9, 10, 11, 12, 13, 14, 22, 23, 24, 25, 26, 27, 28, 29, 30, 31, 32, 33, 34, 35, 36, 37, 38, 39, 40, 41, 42, 43, 44, 45, 46, 47, 48]) (fun ⟨m39, v30, x31, v32, x33, x34, x35⟩ => [(9, v30), (10, v32), (11, (.int .i64 (x34))), (22, (.int .i64 (x35)))]) (fun ⟨m39, v30, x31, v32, x33, x34, x35⟩ w => SH w0 M BE w (hset [(1, .sr rTok va a), (2, .sr rFun vb b), (4, .blk b8 [(.int .i64 (x1.kind)), (.int .i64 (x1.n))]), (11, .own rIns 93 v30 x31), (12, .own rInt 3 v32 x33)]) ∧ again (wandererref_valued_b3 F0 y9 a c b x1) m39 (x31, x33, x34, x35) = some r) (fun ⟨m39, v30, x31, v32, x33, x34, x35⟩ => m39) ⟨N, (.slice none 0 0), [], (.slice none 0 0), [], 1, 0⟩ ⟨rfl, rfl, rfl, rfl, trivial⟩ ?_ ?_
  ·
   exact ⟨h.cn _, hs⟩
  ·
   rintro ⟨m39, v30, x31, v32, x33, x34, x35⟩ w junk ⟨h, hs⟩
   obtain ⟨m391, m39e, m39h⟩ := again_pos hs
   subst m39e
   replace hs := m39h
   generalize hnx40 : again (wandererref_valued_b3 F0 y9 a c b x1) m391 = nx40 at hs
   refine wc_seq (wc_region (wl_ok (r_lss rfl rfl) (wl_nil (then_normal (wc_seq (wc_ifb hs rfl (fun c43 hs => ?_) (fun c43 hs => ?_)))))))
   ·
    refine wc_skip (then_normal (wc_seq (wc_block (wc_seq (wc_region (wl_ok (r_move (v := (.int .i64 (x35))) rfl) (wl_ok (r_assign (v := (.int .i64 (x35))) rfl) (wl_nil (then_normal (wc_seq (wc_region (wl_ok (r_move (v := va) rfl) (wl_ok (r_move (v := (.int .i64 (x34))) rfl) ?_)))))))))))))
    obtain ⟨x44, e45, hs⟩ := o_bind hs
    obtain ⟨e48, e48a, e48b, e48c⟩ := o_sub e45
    obtain ⟨u46, h, i47⟩ := h.slS 1 13 rfl SliceOf145 rfl e48a e48b e48c
    rw [← e48] at h
    refine wl_ok (i47 _ _ _ _ _ _ _ _ _ _ rfl (.inr (congrArg some rfl)) (.inl ⟨rfl, rfl⟩)) (wl_ok (r_move (v := vb) rfl) (wl_ok (r_move (v := (.int .i64 (c))) rfl) (wl_ok (r_move (v := (.int .i64 (x35))) rfl) ?_)))
    obtain ⟨a49, hs⟩ := o_grd hs
    refine wl_ok (r_add rfl rfl a49) ?_
    obtain ⟨y50, e51, hs⟩ := o_bind hs
    refine w_call fnOk100 rfl rfl (ih _ _ h.lt u46 x44 (h.srS 13 rfl) vb b (h.srS 2 rfl) (c + x35) _ e51) ?_
    rintro _ w ⟨k55, u52, rfl, g53, g54⟩
    refine ⟨_, rfl, ?_⟩
    replace h := h.gotOwn 14 k55 g53 g54
    refine wl_ok (r_move (v := (.tuple #[u52, (.int .i64 (y50.2))])) rfl) (wl_ok (r_extract rfl rfl) (wl_ok (r_extract rfl rfl) (wl_ok (r_assign (v := u52) rfl) (wl_ok (r_assign (v := (.int .i64 (y50.2))) rfl) (wl_nil (then_normal (wc_region (wl_ok (r_move (v := v30) rfl) (wl_ok (r_move (v := u52) rfl) ?_)))))))))
    obtain ⟨a56, hs⟩ := o_grd hs
    refine w_app (R := rIns) (m := y50.1) h 11 rfl (h.ownS 14 rfl) ElemOf55 rfl rfl rfl a56.1 a56.2 fun w u57 h => wl_ok (r_move (v := (.int .i64 (x34))) rfl) (wl_ok (r_move (v := (.int .i64 (y50.2))) rfl) ?_)
    obtain ⟨a58, hs⟩ := o_grd hs
    refine wl_ok (r_add rfl rfl a58) (wl_ok (r_move (v := v32) rfl) (wl_ok (r_move (v := (.int .i64 (c))) rfl) (wl_ok (r_move (v := (.int .i64 (x35))) rfl) ?_)))
    obtain ⟨a59, hs⟩ := o_grd hs
    refine wl_ok (r_add rfl rfl a59) (w_bs (R := rInt) (vs := [(.int .i64 ((c + x35)))]) (xs := [(c + x35)]) h 15 ElemOf27 rfl rfl rfl ⟨rfl, trivial⟩ rfl fun w u60 h => ?_)
    obtain ⟨a61, hs⟩ := o_grd hs
    refine w_app (R := rInt) (m := [(c + x35)]) h 12 rfl (h.ownS 15 rfl) ElemOf27 rfl rfl rfl a61.1 a61.2 fun w u62 h => wl_ok (r_assign (v := u57) rfl) (wl_ok (r_assign (v := (.int .i64 ((x34 + y50.2)))) rfl) (wl_ok (r_assign (v := u62) rfl) (wl_nil (inBlock_normal (then_normal (wc_region ?_))))))
    obtain ⟨a63, hs⟩ := o_grd hs
    refine wl_ok (r_add rfl rfl a63) (wl_ok (r_move (v := (.int .i64 ((x35 + 1)))) rfl) (wl_nil (then_loop ?_)))
    subst hnx40
    exact lend ⟨m391, u57, (x31 ++ y50.1), u62, (x33 ++ [(c + x35)]), (x34 + y50.2), (x35 + 1)⟩ ⟨h.cn _, hs⟩
   ·
    refine wc_exit (then_exit (then_exit (inBlock_eq (then_normal (wc_seq (wc_region (wl_ok (r_move (v := (.int .i64 (c))) rfl) (wl_ok (r_fieldAddr Fld160x1 rfl) (wl_ok (r_ldB h 4 rfl One3 rfl rfl) (wl_ok (r_build (pv := [(1, (.int .i64 (c))), (2, (.int .i64 (x1.n)))]) (out := [(.int .i64 (0)), (.int .i64 (c)), (.int .i64 (x1.n)), (.int .i64 (0)), (.slice none 0 0)]) Struct93 rfl ⟨1, 1, [(.int .i64 (c))], rfl, rfl, rfl, Nat.le_of_ble_eq_true rfl, ⟨2, 1, [(.int .i64 (x1.n))], rfl, rfl, rfl, Nat.le_of_ble_eq_true rfl, rfl⟩⟩) (w_allocN h 16 Many93 fun w b64 h => w_stN (vs := [(.int .i64 (0)), (.int .i64 (c)), (.int .i64 (x1.n)), (.int .i64 (0)), (.slice none 0 0)]) h 16 [(.int .i64 (0)), (.int .i64 (c)), (.int .i64 (x1.n)), (.int .i64 (0)), (.slice none 0 0)] rfl Many93 rfl rfl rfl rfl rfl (ones_cons rfl (ones_cons rfl (ones_cons rfl (ones_cons rfl (ones_cons rfl ones_nil))))) fun w h => wl_nil (then_normal (wc_join (σ := Int × Int × Int × Value × List Int) (inl [53, 54, 55, 56, 57, 58, 59, 60, 61, 62, 63, 64, 65, 66, 67, 68, 69, 70, 71, 72, 73, 74, 75, 76, 77, 78, 79, 80, 81, 82, 83, 84, 85]) (fun ⟨y65, y66, y67, v68, y69⟩ => []) (fun ⟨y65, y66, y67, v68, y69⟩ w => SH w0 M BE w (hset [(11, .own rIns 93 v30 x31), (16, .blk b64 [(.int .i64 (y65)), (.int .i64 (c)), (.int .i64 (y66)), (.int .i64 (y67)), v68]), (17, .own rInt 3 v68 y69)]) ∧ wandererref_valued_j2 x31 c x34 y65 y66 y67 y69 = some r) ?_ ?_)))))))))))))
    ·
     rintro ⟨y65, y66, y67, v68, y69⟩ w junk ⟨h, hs⟩
     refine wc_seq (wc_region (wl_ok (r_move (v := v30) rfl) (wl_ok (r_ldBN (vs := [(.int .i64 (y65)), (.int .i64 (c)), (.int .i64 (y66)), (.int .i64 (y67)), v68]) h 16 rfl Many93 rfl rfl rfl) ?_)))
     replace h := h.freeze 17 rfl
     refine w_bs (R := rIns) (vs := [(.agg #[(.int .i64 (y65)), (.int .i64 (c)), (.int .i64 (y66)), (.int .i64 (y67)), v68])]) (xs := [(⟨y65, c, y66, y67, y69⟩ : Ins)]) h 18 ElemOf55 rfl rfl rfl ⟨⟨_, rfl, (h.rdAt 17 rfl)⟩, trivial⟩ rfl fun w u70 h => ?_
     obtain ⟨a71, hs⟩ := o_grd hs
     refine w_app (R := rIns) (m := [(⟨y65, c, y66, y67, y69⟩ : Ins)]) h 11 rfl (h.ownS 18 rfl) ElemOf55 rfl rfl rfl a71.1 a71.2 fun w u72 h => wl_ok (r_move (v := (.int .i64 (x34))) rfl) (wl_ok (r_assign (v := u72) rfl) (wl_ok (r_assign (v := (.int .i64 (x34))) rfl) (wl_nil (then_normal (wc_ret (fin2 (v1 := u72) (v2 := (.int .i64 (x34))) Tryz.results100 rfl rfl ?_))))))
     obtain rfl := Option.some.inj hs
     exact ⟨h.grown, _, rfl, (h.outOwn 11 rfl).1, (h.outOwn 11 rfl).2⟩
    ·
     refine wc_seq (wc_region (wl_ok (r_fieldAddr Fld160x0 rfl) (wl_ok (r_ldB h 4 rfl One3 rfl rfl) (wl_nil (then_normal (wc_block (wc_seq (wc_region (wl_ok (r_eql rfl rfl) (wl_ok (r_assign (v := (.bool (decide ((x1.kind : Int) = 1)))) rfl) (wl_nil (then_normal (wc_ifb hs rfl (fun c73 hs => ?_) (fun c73 hs => ?_))))))))))))))
     ·
      refine wc_region (wl_ok (r_fieldAddr Fld93x0 rfl) (w_st1 h 16 [(.int .i64 (1)), (.int .i64 (c)), (.int .i64 (x1.n)), (.int .i64 (0)), (.slice none 0 0)] rfl One3 rfl rfl rfl rfl rfl fun w h => wl_nil (inBlock_normal (then_loop ?_))))
      replace h := h.nilO (R := rInt) (E := 3) 17
      exact jend (1, x1.n, 0, (.slice none 0 0), []) ⟨h.cn _, hs⟩
     ·
      refine wc_seq (wc_region (wl_ok (r_eql rfl rfl) (wl_ok (r_assign (v := (.bool (decide ((x1.kind : Int) = 2)))) rfl) (wl_nil (then_normal (wc_ifb hs rfl (fun c74 hs => ?_) (fun c74 hs => ?_)))))))
      ·
       refine wc_region (wl_ok (r_fieldAddr Fld93x0 rfl) (w_st1 h 16 [(.int .i64 (2)), (.int .i64 (c)), (.int .i64 (x1.n)), (.int .i64 (0)), (.slice none 0 0)] rfl One3 rfl rfl rfl rfl rfl fun w h => wl_nil (inBlock_normal (then_loop ?_))))
       replace h := h.nilO (R := rInt) (E := 3) 17
       exact jend (2, x1.n, 0, (.slice none 0 0), []) ⟨h.cn _, hs⟩
      ·
       refine wc_seq (wc_region (wl_ok (r_eql rfl rfl) (wl_ok (r_assign (v := (.bool (decide ((x1.kind : Int) = 5)))) rfl) (wl_nil (then_normal (wc_ifb hs rfl (fun c75 hs => ?_) (fun c75 hs => ?_)))))))
       ·
        refine wc_region (wl_ok (r_fieldAddr Fld93x0 rfl) (w_st1 h 16 [(.int .i64 (5)), (.int .i64 (c)), (.int .i64 (x1.n)), (.int .i64 (0)), (.slice none 0 0)] rfl One3 rfl rfl rfl rfl rfl fun w h => wl_nil (inBlock_normal (then_loop ?_))))
        replace h := h.nilO (R := rInt) (E := 3) 17
        exact jend (5, x1.n, 0, (.slice none 0 0), []) ⟨h.cn _, hs⟩
       ·
        refine wc_seq (wc_region (wl_ok (r_eql rfl rfl) (wl_ok (r_assign (v := (.bool (decide ((x1.kind : Int) = 3)))) rfl) (wl_nil (then_normal (wc_ifb hs rfl (fun c76 hs => ?_) (fun c76 hs => ?_)))))))
        ·
         refine wc_region (wl_ok (r_move (v := (.int .i64 (c))) rfl) (wl_ok (r_move (v := (.int .i64 (c))) rfl) (wl_ok (r_move (v := (.int .i64 (c))) rfl) ?_)))
         obtain ⟨a77, hs⟩ := o_grd hs
         refine wl_ok (r_add rfl rfl a77) (wl_ok (r_fieldAddr Fld160x1 rfl) (wl_ok (r_ldB h 4 rfl One3 rfl rfl) (w_bs (R := rInt) (vs := [(.int .i64 (x1.n))]) (xs := [x1.n]) h 19 ElemOf27 rfl rfl rfl ⟨rfl, trivial⟩ rfl fun w u78 h => wl_ok (r_build (pv := [(0, (.int .i64 (3))), (1, (.int .i64 (c))), (2, (.int .i64 (c))), (3, (.int .i64 ((c + 1)))), (4, u78)]) (out := [(.int .i64 (3)), (.int .i64 (c)), (.int .i64 (c)), (.int .i64 ((c + 1))), u78]) Struct93 rfl ⟨0, 1, [(.int .i64 (3))], rfl, rfl, rfl, Nat.le_of_ble_eq_true rfl, ⟨1, 1, [(.int .i64 (c))], rfl, rfl, rfl, Nat.le_of_ble_eq_true rfl, ⟨2, 1, [(.int .i64 (c))], rfl, rfl, rfl, Nat.le_of_ble_eq_true rfl, ⟨3, 1, [(.int .i64 ((c + 1)))], rfl, rfl, rfl, Nat.le_of_ble_eq_true rfl, ⟨4, 1, [u78], rfl, (toList_of_one (h.ownAt 19 rfl).one), rfl, Nat.le_of_ble_eq_true rfl, rfl⟩⟩⟩⟩⟩) (w_stN (vs := [(.int .i64 (3)), (.int .i64 (c)), (.int .i64 (c)), (.int .i64 ((c + 1))), u78]) h 16 [(.int .i64 (3)), (.int .i64 (c)), (.int .i64 (c)), (.int .i64 ((c + 1))), u78] rfl Many93 rfl rfl rfl rfl rfl (ones_cons rfl (ones_cons rfl (ones_cons rfl (ones_cons rfl (ones_cons (h.ownAt 19 rfl).one ones_nil))))) fun w h => wl_nil (inBlock_normal (then_loop ?_))))))
         replace h := h.moveO 19 17 rfl rfl (by decide)
         exact jend (3, c, (c + 1), u78, [x1.n]) ⟨h.cn _, hs⟩
        ·
         refine wc_seq (wc_region (wl_ok (r_eql rfl rfl) (wl_ok (r_assign (v := (.bool (decide ((x1.kind : Int) = 4)))) rfl) (wl_nil (then_normal (wc_ifb hs rfl (fun c79 hs => ?_) (fun c79 hs => ?_)))))))
         ·
          refine wc_region (wl_ok (r_move (v := (.int .i64 (c))) rfl) (wl_ok (r_move (v := (.int .i64 (c))) rfl) (wl_ok (r_fieldAddr Fld160x1 rfl) (wl_ok (r_ldB h 4 rfl One3 rfl rfl) (wl_ok (r_build (pv := [(0, (.int .i64 (4))), (1, (.int .i64 (c))), (2, (.int .i64 (c))), (3, (.int .i64 (x1.n)))]) (out := [(.int .i64 (4)), (.int .i64 (c)), (.int .i64 (c)), (.int .i64 (x1.n)), (.slice none 0 0)]) Struct93 rfl ⟨0, 1, [(.int .i64 (4))], rfl, rfl, rfl, Nat.le_of_ble_eq_true rfl, ⟨1, 1, [(.int .i64 (c))], rfl, rfl, rfl, Nat.le_of_ble_eq_true rfl, ⟨2, 1, [(.int .i64 (c))], rfl, rfl, rfl, Nat.le_of_ble_eq_true rfl, ⟨3, 1, [(.int .i64 (x1.n))], rfl, rfl, rfl, Nat.le_of_ble_eq_true rfl, rfl⟩⟩⟩⟩) (w_stN (vs := [(.int .i64 (4)), (.int .i64 (c)), (.int .i64 (c)), (.int .i64 (x1.n)), (.slice none 0 0)]) h 16 [(.int .i64 (4)), (.int .i64 (c)), (.int .i64 (c)), (.int .i64 (x1.n)), (.slice none 0 0)] rfl Many93 rfl rfl rfl rfl rfl (ones_cons rfl (ones_cons rfl (ones_cons rfl (ones_cons rfl (ones_cons rfl ones_nil))))) fun w h => wl_nil (inBlock_normal (then_loop ?_))))))))
          replace h := h.nilO (R := rInt) (E := 3) 17
          exact jend (4, c, x1.n, (.slice none 0 0), []) ⟨h.cn _, hs⟩
         ·
          refine wc_seq (wc_region (wl_ok (r_eql rfl rfl) (wl_ok (r_assign (v := (.bool (decide ((x1.kind : Int) = 6)))) rfl) (wl_nil (then_normal (wc_ifb hs rfl (fun c80 hs => ?_) (fun c80 hs => ?_)))))))
          ·
           refine wc_region (wl_ok (r_move (v := v32) rfl) (wl_ok (r_fieldAddr Fld93x0 rfl) (w_st1 h 16 [(.int .i64 (7)), (.int .i64 (c)), (.int .i64 (x1.n)), (.int .i64 (0)), (.slice none 0 0)] rfl One3 rfl rfl rfl rfl rfl fun w h => wl_ok (r_fieldAddr Fld93x4 rfl) (w_st1 h 16 [(.int .i64 (7)), (.int .i64 (c)), (.int .i64 (x1.n)), (.int .i64 (0)), v32] rfl One27 rfl rfl rfl rfl (h.ownAt 12 rfl).one fun w h => wl_nil (inBlock_normal (then_loop ?_))))))
           replace h := h.moveO 12 17 rfl rfl (by decide)
           exact jend (7, x1.n, 0, v32, x33) ⟨h.cn _, hs⟩
          ·
           refine wc_skip (inBlock_normal (then_loop ?_))
           replace h := h.nilO (R := rInt) (E := 3) 17
           exact jend (0, x1.n, 0, (.slice none 0 0), []) ⟨h.cn _, hs⟩
def wandererref_codeOf_j72 (x8 : List Ins) (nx13 : List Ins → Option (List Ins)) (x34 : List Ins) : Option (List Ins) :=
  grd (Room 56 x8 x34) (nx13 (x8 ++ x34))
def wandererref_codeOf_j74 (x32 : List Ins) (c : Int) (d : Int) (x8 : List Ins) (y73 : List Ins) (y83 : List Ins) (nx13 : List Ins → Option (List Ins)) (x90 : Int) : Option (List Ins) :=
  grd (Room 56 x32 [(⟨13, c, (((((d + (x8.length : Int)) + (x32.length : Int)) + 1) + (y73.length : Int)) + 1), 0, []⟩ : Ins)]) (grd (Room 56 (x32 ++ [(⟨13, c, (((((d + (x8.length : Int)) + (x32.length : Int)) + 1) + (y73.length : Int)) + 1), 0, []⟩ : Ins)]) y73) (grd (Room 56 ((x32 ++ [(⟨13, c, (((((d + (x8.length : Int)) + (x32.length : Int)) + 1) + (y73.length : Int)) + 1), 0, []⟩ : Ins)]) ++ y73) [(⟨12, 0, x90, 0, []⟩ : Ins)]) (grd (Room 56 (((x32 ++ [(⟨13, c, (((((d + (x8.length : Int)) + (x32.length : Int)) + 1) + (y73.length : Int)) + 1), 0, []⟩ : Ins)]) ++ y73) ++ [(⟨12, 0, x90, 0, []⟩ : Ins)]) y83) (wandererref_codeOf_j72 x8 nx13 ((((x32 ++ [(⟨13, c, (((((d + (x8.length : Int)) + (x32.length : Int)) + 1) + (y73.length : Int)) + 1), 0, []⟩ : Ins)]) ++ y73) ++ [(⟨12, 0, x90, 0, []⟩ : Ins)]) ++ y83)))))
def wandererref_codeOf_j73 (F0 : List GStmt → List Fun → Int → Int → Option (List Ins)) (d : Int) (x8 : List Ins) (x32 : List Ins) (x11 : GStmt) (a : List GStmt) (b : List Fun) (c : Int) (nx13 : List Ins → Option (List Ins)) (x69 : Bool) : Option (List Ins) :=
  bif x69 then grd (I64 ((d + (x8.length : Int)) + (x32.length : Int))) (grd (I64 (((d + (x8.length : Int)) + (x32.length : Int)) + 1)) ((F0 x11.a b c (((d + (x8.length : Int)) + (x32.length : Int)) + 1)).bind fun y73 => grd (I64 ((d + (x8.length : Int)) + (x32.length : Int))) (grd (I64 (((d + (x8.length : Int)) + (x32.length : Int)) + 1)) (grd (I64 ((((d + (x8.length : Int)) + (x32.length : Int)) + 1) + (y73.length : Int))) (grd (I64 (((((d + (x8.length : Int)) + (x32.length : Int)) + 1) + (y73.length : Int)) + 1)) ((F0 x11.b b c (((((d + (x8.length : Int)) + (x32.length : Int)) + 1) + (y73.length : Int)) + 1)).bind fun y83 => grd (I64 ((((((d + (x8.length : Int)) + (x32.length : Int)) + 1) + (y73.length : Int)) + 1) + (y83.length : Int))) (bif decide ((x11.kind : Int) = 7) then wandererref_codeOf_j74 x32 c d x8 y73 y83 nx13 (d + (x8.length : Int)) else wandererref_codeOf_j74 x32 c d x8 y73 y83 nx13 ((((((d + (x8.length : Int)) + (x32.length : Int)) + 1) + (y73.length : Int)) + 1) + (y83.length : Int))))))))) else wandererref_codeOf_j72 x8 nx13 x32
def wandererref_codeOf_j69 (N : Nat) (F0 : List GStmt → List Fun → Int → Int → Option (List Ins)) (x11 : GStmt) (c : Int) (x8 : List Ins) (nx13 : List Ins → Option (List Ins)) (b : List Fun) (d : Int) (a : List GStmt) (x32 : List Ins) : Option (List Ins) :=
  bif decide ((x11.kind : Int) = 1) then grd (Room 56 x32 [(⟨2, x11.n, c, 0, []⟩ : Ins)]) (wandererref_codeOf_j72 x8 nx13 (x32 ++ [(⟨2, x11.n, c, 0, []⟩ : Ins)])) else bif decide ((x11.kind : Int) = 2) then grd (I64 (c + 1)) ((wandererref_valued N x11.f b (c + 1)).bind fun y43 => grd (I64 (c + 1)) (grd (Room 56 x32 y43.1) (grd (Room 56 (x32 ++ y43.1) [(⟨6, c, (c + 1), x11.n, []⟩ : Ins)]) (wandererref_codeOf_j72 x8 nx13 ((x32 ++ y43.1) ++ [(⟨6, c, (c + 1), x11.n, []⟩ : Ins)]))))) else bif decide ((x11.kind : Int) = 3) then grd (Room 56 x32 [(⟨9, c, 0, 0, []⟩ : Ins)]) (wandererref_codeOf_j72 x8 nx13 (x32 ++ [(⟨9, c, 0, 0, []⟩ : Ins)])) else bif decide ((x11.kind : Int) = 4) then grd (Room 56 x32 [(⟨10, 0, 0, 0, []⟩ : Ins)]) (wandererref_codeOf_j72 x8 nx13 (x32 ++ [(⟨10, 0, 0, 0, []⟩ : Ins)])) else bif decide ((x11.kind : Int) = 5) then grd (Room 56 x32 [(⟨11, c, 0, 0, []⟩ : Ins)]) (wandererref_codeOf_j72 x8 nx13 (x32 ++ [(⟨11, c, 0, 0, []⟩ : Ins)])) else bif decide ((x11.kind : Int) = 8) then grd (Room 56 x32 [(⟨8, c, 0, 0, []⟩ : Ins)]) (wandererref_codeOf_j72 x8 nx13 (x32 ++ [(⟨8, c, 0, 0, []⟩ : Ins)])) else bif decide ((x11.kind : Int) = 6) then wandererref_codeOf_j73 F0 d x8 x32 x11 a b c nx13 (decide ((x11.kind : Int) = 6)) else wandererref_codeOf_j73 F0 d x8 x32 x11 a b c nx13 (decide ((x11.kind : Int) = 7))
def wandererref_codeOf_b75 (N : Nat) (F0 : List GStmt → List Fun → Int → Int → Option (List Ins)) (d : Int) (b : List Fun) (c : Int) (a : List GStmt) (x11 : GStmt) (x8 : List Ins) (nx13 : List Ins → Option (List Ins)) : Option (List Ins) :=
  grd (I64 (d + (x8.length : Int))) (bif decide ((0 : Int) < (x11.e.length : Int)) then (wandererref_valued N x11.e b c).bind fun y104 => wandererref_codeOf_j69 N F0 x11 c x8 nx13 b d a y104.1 else wandererref_codeOf_j69 N F0 x11 c x8 nx13 b d a [])
def wandererref_codeOf_k76 (x8 : List Ins) : Option (List Ins) :=
  some x8
def wandererref_codeOf_r (N : Nat) (F0 : List GStmt → List Fun → Int → Int → Option (List Ins)) (a : List GStmt) (b : List Fun) (c : Int) (d : Int) : Option (List Ins) :=
  each (wandererref_codeOf_b75 N F0 d b c a) wandererref_codeOf_k76 a []
def wandererref_codeOf : Nat → List GStmt → List Fun → Int → Int → Option (List Ins)
  | 0 => fun _ _ _ _ => none
  | N + 1 => wandererref_codeOf_r N (wandererref_codeOf N)
theorem wandererref_codeOf_c : ∀ (N : Nat) (w0 : World) (M : BS) (hM : ∀ b, M b → b < w0.heap.size) (va : Value) (a : List GStmt) (ha : Rd2 rStmt w0 BE M va a) (vb : Value) (b : List Fun) (hb : Rd2 rFun w0 BE M vb b) (c : Int) (d : Int) (r : List Ins) (hs : wandererref_codeOf N a b c d = some r),
    Calls Tryz.prog 76 #[va, vb, (.int .i64 (c)), (.int .i64 (d))] w0 (fun e w' => Grow w0 w' ∧ ∃ u0, e = .returned (u0) ∧ OwnSl rIns 93 w' M u0 r ∧ (∀ b, ob u0 b → w0.heap.size ≤ b)) := by
  intro N
  induction N with
  | zero => intro w0 M hM va a ha vb b hb c d r hs; cases hs
  | succ N ih =>
  intro w0 M hM va a ha vb b hb c d r hs
  replace hs : wandererref_codeOf_r N (wandererref_codeOf N) a b c d = some r := hs
  generalize wandererref_codeOf N = F0 at hs ih
  refine calls_start (args := [va, vb, (.int .i64 (c)), (.int .i64 (d))]) Tryz.func76 rfl Tryz.ntmps76 (Nat.le_of_ble_eq_true rfl) ?_
  have h := SH.init hM
  replace h := h.argSr 1 ha none_own
  replace h := h.argSr 2 hb (hupd_own_sr none_own)
  have hl_a := ha.len_le
  have hl_b := hb.len_le
  refine wc_seq (wc_region (wl_ok (r_assign (v := (.slice none 0 0)) rfl) (wl_nil (then_normal (wc_seq (wc_region (wl_ok (r_assign (v := (.slice none 0 0)) rfl) (wl_nil (then_normal (wc_seq (wc_seq (wc_region (wl_ok (r_move (v := va) rfl) (wl_ok (r_len SliceOf111 rfl (h.srS 1 rfl)) (wl_ok (r_move (v := (.int .i64 (0))) rfl) (wl_nil (then_normal (wc_block ?_))))))))))))))))))
  replace h := h.nilO (R := rIns) (E := 93) 6
  refine wc_lp (σ := Nat × Int × Value × List Ins) (inl [9, 11, 12, 13, 14, 15, 16, 17, 18, 19, 22, 23, 24, 25, 26, 27, 28, 29, 30, 31, 32, 33, 34, 35, 36, 37, 38, 39, 40, 41, 42, 43, 44, 45, 46, 47, 48, 49, 50, 51, 52, 53, 54, 55, 56, 57, 58, 59, 60, 61, 62, 63, 64, 65, 66, 67, 68, 69, 70, 71, 72, 73, 74, 75, 76, 77, 78, 79, 80, 81, 82, 83, 84, 85, 86, 87, 88, 89, 90, 91, 92, 93, 94, 95, 96, 97, 98, 99, 100, 101, 102, 103, 104, 105, 106, 107, 108, 109, 110, 111, 112, 113, 114, 115, 116, 117, 118, 119, 120, 121, 122, 123, 124, 125, 126, 127, 128, 129, 130, 131, 132, 133, 134, 135, 136, 137, 138, 139, 140, 141, 142, 143, 144, 145, 146, 147, 148, 149, 150, 151, 152, 153, 154, 155]) (fun ⟨k9, i10, v7, x8⟩ => [(9, v7), (22, (.int .i64 (i10)))]) (fun ⟨k9, i10, v7, x8⟩ w => SH w0 M BE w (hset [(1, .sr rStmt va a), (2, .sr rFun vb b), (6, .own rIns 93 v7 x8)]) ∧ i10 = (k9 : Int) ∧ each (wandererref_codeOf_b75 N F0 d b c a) wandererref_codeOf_k76 (a.drop k9) x8 = some r) (fun ⟨k9, i10, v7, x8⟩ => a.length - k9) ⟨0, 0, (.slice none 0 0), []⟩ ⟨rfl, rfl, trivial⟩ ?_ ?_
  ·
   exact ⟨h.cn _, rfl, hs⟩
  ·
   rintro ⟨k9, i10, v7, x8⟩ w junk ⟨h, hik, hs⟩
   refine wc_seq (wc_region ?_)
   refine wl_ok (r_lss rfl rfl) (wl_nil (then_normal ?_))
   refine wc_seq (wc_if rfl (fun e14 => ?_) (fun e14 => ?_))
   ·
    refine wc_skip (then_normal ?_)
    obtain ⟨x11, e15a, e15b⟩ := drop_lt (hik ▸ e14)
    rw [e15b, each_cons] at hs
    generalize hnx13 : each (wandererref_codeOf_b75 N F0 d b c a) wandererref_codeOf_k76 (a.drop (k9 + 1)) = nx13 at hs
    have e15r := nat_rng ((h.srS 1 rfl)).len_le hik e14
    refine wc_seq (wc_block (wc_seq (wc_region ?_)))
    obtain ⟨b17, o18, cs19, h, r20, i16⟩ := h.ixS 1 7 rfl SliceOf111 rfl (nat_nn hik) (get_nat hik e15a)
    obtain ⟨u21, u23, u25, u27, rfl, g22, g24, g26, g28⟩ := rStmt_open r20
    replace h := h.knowRd 8 g22.up
    replace h := h.knowRd 9 g24.up.up
    replace h := h.knowRd 10 g26.up.up.up
    replace h := h.knowRd 11 g28.up.up.up.up
    refine wl_ok (i16 _ _ _ _ _ _ _ _ _ rfl rfl) (wl_ok (r_ldPN (k := 0) (vs := [(.int .i64 (x11.kind)), (.int .i64 (x11.n)), u21, u23, u25, u27]) h 7 rfl Many147 rfl rfl rfl (Nat.le_of_ble_eq_true rfl)) (w_allocN h 12 Many147 fun w b29 h => w_stN (vs := [(.int .i64 (x11.kind)), (.int .i64 (x11.n)), u21, u23, u25, u27]) h 12 [(.int .i64 (x11.kind)), (.int .i64 (x11.n)), u21, u23, u25, u27] rfl Many147 rfl rfl rfl rfl rfl (ones_cons rfl (ones_cons rfl (ones_cons (h.rdAt 8 rfl).one (ones_cons (h.rdAt 9 rfl).one (ones_cons (h.rdAt 10 rfl).one (ones_cons (h.rdAt 11 rfl).one ones_nil)))))) fun w h => wl_nil (then_normal (wc_seq (wc_region (wl_ok (r_move (v := (.int .i64 (d))) rfl) (wl_ok (r_move (v := v7) rfl) (wl_ok (r_len SliceOf55 rfl (h.ownS 6 rfl)) ?_))))))))
    obtain ⟨a30, hs⟩ := o_grd hs
    refine wl_ok (r_add rfl rfl a30) (wl_ok (r_assign (v := (.int .i64 ((d + (x8.length : Int))))) rfl) (wl_nil (then_normal (wc_seq (wc_region (wl_ok (r_assign (v := (.slice none 0 0)) rfl) (wl_nil (then_normal (wc_join (σ := Value × List Ins) (inl [13, 30, 31, 32, 33, 34, 35, 36, 37, 38, 39, 40, 41]) (fun ⟨v31, x32⟩ => [(13, v31)]) (fun ⟨v31, x32⟩ w => SH w0 M BE w (hset [(1, .sr rStmt va a), (2, .sr rFun vb b), (6, .own rIns 93 v7 x8), (8, .rd rTok u21 x11.e), (9, .rd rTok u23 x11.f), (10, .rd rStmt u25 x11.a), (11, .rd rStmt u27 x11.b), (12, .blk b29 [(.int .i64 (x11.kind)), (.int .i64 (x11.n)), u21, u23, u25, u27]), (13, .own rIns 93 v31 x32)]) ∧ wandererref_codeOf_j69 N F0 x11 c x8 nx13 b d a x32 = some r) ?_ ?_)))))))))
    ·
     rintro ⟨v31, x32⟩ w junk ⟨h, hs⟩
     refine wc_join (σ := Value × List Ins) (inl [13, 14, 15, 16, 17, 18, 19, 42, 43, 44, 45, 46, 47, 48, 49, 50, 51, 52, 53, 54, 55, 56, 57, 58, 59, 60, 61, 62, 63, 64, 65, 66, 67, 68, 69, 70, 71, 72, 73, 74, 75, 76, 77, 78, 79, 80, 81, 82, 83, 84, 85, 86, 87, 88, 89, 90, 91, 92, 93, 94, 95, 96, 97, 98, 99, 100, 101, 102, 103, 104, 105, 106, 107, 108, 109, 110, 111, 112, 113, 114, 115, 116, 117, 118, 119, 120, 121, 122, 123, 124, 125, 126, 127, 128, 129, 130, 131, 132, 133, 134, 135, 136, 137, 138, 139, 140, 141, 142, 143, 144, 145, 146, 147, 148, 149, 150, 151]) (fun ⟨v33, x34⟩ => [(13, v33)]) (fun ⟨v33, x34⟩ w => SH w0 M BE w (hset [(1, .sr rStmt va a), (2, .sr rFun vb b), (6, .own rIns 93 v7 x8), (13, .own rIns 93 v33 x34)]) ∧ wandererref_codeOf_j72 x8 nx13 x34 = some r) ?_ ?_
     ·
      rintro ⟨v33, x34⟩ w junk ⟨h, hs⟩
      refine wc_region (wl_ok (r_move (v := v7) rfl) (wl_ok (r_move (v := v33) rfl) ?_))
      obtain ⟨a35, hs⟩ := o_grd hs
      refine w_app (R := rIns) (m := x34) h 6 rfl (h.ownS 13 rfl) ElemOf55 rfl rfl rfl a35.1 a35.2 fun w u36 h => wl_ok (r_assign (v := u36) rfl) (wl_nil (inBlock_normal (then_normal (wc_region (wl_ok (r_add rfl rfl e15r) (wl_ok (r_move (v := (.int .i64 ((i10 + 1)))) rfl) (wl_nil (then_loop ?_))))))))
      subst hnx13
      exact lend ⟨k9 + 1, i10 + 1, u36, (x8 ++ x34)⟩ ⟨h.cn _, by omega, hs⟩ (by have := of_decide_eq_true e14; dsimp only; omega)
     ·
      refine wc_seq (wc_region (wl_ok (r_fieldAddr Fld147x0 rfl) (wl_ok (r_ldB h 12 rfl One3 rfl rfl) (wl_nil (then_normal (wc_block (wc_seq (wc_region (wl_ok (r_eql rfl rfl) (wl_ok (r_assign (v := (.bool (decide ((x11.kind : Int) = 1)))) rfl) (wl_nil (then_normal (wc_ifb hs rfl (fun c37 hs => ?_) (fun c37 hs => ?_))))))))))))))
      ·
       refine wc_region (wl_ok (r_move (v := v31) rfl) (wl_ok (r_fieldAddr Fld147x1 rfl) (wl_ok (r_ldB h 12 rfl One3 rfl rfl) (wl_ok (r_move (v := (.int .i64 (c))) rfl) (wl_ok (r_build (pv := [(0, (.int .i64 (2))), (1, (.int .i64 (x11.n))), (2, (.int .i64 (c)))]) (out := [(.int .i64 (2)), (.int .i64 (x11.n)), (.int .i64 (c)), (.int .i64 (0)), (.slice none 0 0)]) Struct93 rfl ⟨0, 1, [(.int .i64 (2))], rfl, rfl, rfl, Nat.le_of_ble_eq_true rfl, ⟨1, 1, [(.int .i64 (x11.n))], rfl, rfl, rfl, Nat.le_of_ble_eq_true rfl, ⟨2, 1, [(.int .i64 (c))], rfl, rfl, rfl, Nat.le_of_ble_eq_true rfl, rfl⟩⟩⟩) (w_bs (R := rIns) (vs := [(.agg #[(.int .i64 (2)), (.int .i64 (x11.n)), (.int .i64 (c)), (.int .i64 (0)), (.slice none 0 0)])]) (xs := [(⟨2, x11.n, c, 0, []⟩ : Ins)]) h 14 ElemOf55 rfl rfl rfl ⟨⟨_, rfl, Rd2.nil⟩, trivial⟩ rfl fun w u38 h => ?_))))))
       obtain ⟨a39, hs⟩ := o_grd hs
       refine w_app (R := rIns) (m := [(⟨2, x11.n, c, 0, []⟩ : Ins)]) h 13 rfl (h.ownS 14 rfl) ElemOf55 rfl rfl rfl a39.1 a39.2 fun w u40 h => wl_ok (r_assign (v := u40) rfl) (wl_nil (inBlock_normal (then_loop ?_)))
       exact jend (u40, (x32 ++ [(⟨2, x11.n, c, 0, []⟩ : Ins)])) ⟨h.cn _, hs⟩
      ·
       refine wc_seq (wc_region (wl_ok (r_eql rfl rfl) (wl_ok (r_assign (v := (.bool (decide ((x11.kind : Int) = 2)))) rfl) (wl_nil (then_normal (wc_ifb hs rfl (fun c41 hs => ?_) (fun c41 hs => ?_)))))))
       ·
        refine wc_seq (wc_region (wl_ok (r_fieldAddr Fld147x3 rfl) (wl_ok (r_ldB h 12 rfl One145 rfl rfl) (wl_ok (r_move (v := vb) rfl) (wl_ok (r_move (v := (.int .i64 (c))) rfl) ?_)))))
        obtain ⟨a42, hs⟩ := o_grd hs
        refine wl_ok (r_add rfl rfl a42) ?_
        obtain ⟨y43, e44, hs⟩ := o_bind hs
        refine w_call fnOk100 rfl rfl (wandererref_valued_c N _ _ h.lt u23 x11.f (h.rdS 9 rfl) vb b (h.srS 2 rfl) (c + 1) _ e44) ?_
        rintro _ w ⟨k48, u45, rfl, g46, g47⟩
        refine ⟨_, rfl, ?_⟩
        replace h := h.gotOwn 15 k48 g46 g47
        refine wl_ok (r_move (v := (.tuple #[u45, (.int .i64 (y43.2))])) rfl) (wl_ok (r_extract rfl rfl) (wl_ok (r_extract rfl rfl) (wl_ok (r_assign (v := u45) rfl) (wl_ok (r_assign (v := (.int .i64 (y43.2))) rfl) (wl_nil (then_normal (wck_held (L := (ob v31)) mixed h fun w h => whk_ok 0 (Keep.refl _ _) rfl want_none (by kernel_rfl) (by kernel_rfl) (by kernel_rfl) (fun w hk => r_move (v := v31) rfl) (whk_ok 1 (Keep.refl _ _) rfl want_none (by kernel_rfl) (by kernel_rfl) (by kernel_rfl) (fun w hk => r_move (v := u45) rfl) (whk_ok 3 (Keep.refl _ _) rfl want_none (by kernel_rfl) (by kernel_rfl) (by kernel_rfl) (fun w hk => r_move (v := (.int .i64 (c))) rfl) (whk_ok 4 (Keep.refl _ _) rfl want_none (by kernel_rfl) (by kernel_rfl) (by kernel_rfl) (fun w hk => r_move (v := (.int .i64 (c))) rfl) ?_))))))))))
        obtain ⟨aq50x5_1, hs⟩ := o_grd hs
        refine whk_ok 5 (Keep.refl _ _) rfl want_none (by kernel_rfl) (by kernel_rfl) (by kernel_rfl) (fun w hk => r_add rfl rfl aq50x5_1) (whk_ok 6 (Keep.refl _ _) rfl want_none (by kernel_rfl) (by kernel_rfl) (by kernel_rfl) (fun w hk => r_fieldAddr Fld147x1 rfl) (whk_ok 7 (Keep.refl _ _) rfl want_none (by kernel_rfl) (by kernel_rfl) (by kernel_rfl) (fun w hk => have h := h.loseC 13 rfl hk; r_ldB h 12 rfl One3 rfl rfl) (whk_ok 8 (Keep.refl _ _) rfl want_none (by kernel_rfl) (by kernel_rfl) (by kernel_rfl) (fun w hk => r_build (pv := [(0, (.int .i64 (6))), (1, (.int .i64 (c))), (2, (.int .i64 ((c + 1)))), (3, (.int .i64 (x11.n)))]) (out := [(.int .i64 (6)), (.int .i64 (c)), (.int .i64 ((c + 1))), (.int .i64 (x11.n)), (.slice none 0 0)]) Struct93 rfl ⟨0, 1, [(.int .i64 (6))], rfl, rfl, rfl, Nat.le_of_ble_eq_true rfl, ⟨1, 1, [(.int .i64 (c))], rfl, rfl, rfl, Nat.le_of_ble_eq_true rfl, ⟨2, 1, [(.int .i64 ((c + 1)))], rfl, rfl, rfl, Nat.le_of_ble_eq_true rfl, ⟨3, 1, [(.int .i64 (x11.n))], rfl, rfl, rfl, Nat.le_of_ble_eq_true rfl, rfl⟩⟩⟩⟩) ?_)))
        obtain ⟨aq50x2_1, hs⟩ := o_grd hs
        obtain ⟨aq50x10_1, hs⟩ := o_grd hs
        obtain ⟨ws51, ws51e⟩ : ∃ x, x = w := ⟨_, rfl⟩
        have hg52 : Keep (ob v31) ws51 w := ws51e ▸ Keep.refl (ob v31) w
        refine whk_at ws51e.symm (whk_eff2 2 9 (by kernel_rfl) rfl want_none rfl want_none ?_ ?_)
        ·
         have uq50x2_2z := hg52.size
         refine w_appGN (R := rIns) (m := y43.1) h 13 rfl (h.ownS 15 rfl) ElemOf55 rfl rfl rfl aq50x2_1.1 aq50x2_1.2 fun w uq50x2_2 h uq50x2_2k uq50x2_2n => ?_
         have uq50x2_2q : ∀ b, ob uq50x2_2 b → b < ws51.heap.size → ob v31 b := fun b hb hl => uq50x2_2n b hb (Nat.lt_of_lt_of_le hl (hg52).size)
         replace hg52 := hg52.same uq50x2_2k
         refine wl_nil (whk_back hg52 (whk_eff 9 (by kernel_rfl) rfl want_none (w_bsG (R := rIns) (vs := [(.agg #[(.int .i64 (6)), (.int .i64 (c)), (.int .i64 ((c + 1))), (.int .i64 (x11.n)), (.slice none 0 0)])]) (xs := [(⟨6, c, (c + 1), x11.n, []⟩ : Ins)]) h 124 ElemOf55 rfl rfl rfl ⟨⟨_, rfl, Rd2.nil⟩, trivial⟩ rfl fun w uq50x9_1 h uq50x9_1k uq50x9_1f => ?_)))
         have uq50x9_1q : ∀ b, ob uq50x9_1 b → ws51.heap.size ≤ b := fun b hb => Nat.le_trans hg52.size (uq50x9_1f b hb)
         replace hg52 := hg52.grow uq50x9_1k
         refine wl_nil (whk_back hg52 (whk_eff 10 (by kernel_rfl) rfl want_none ?_))
         have uq50x10_2z := hg52.size
         refine w_appGN (R := rIns) (m := [(⟨6, c, (c + 1), x11.n, []⟩ : Ins)]) h 13 rfl (h.ownS 124 rfl) ElemOf55 rfl rfl rfl aq50x10_1.1 aq50x10_1.2 fun w uq50x10_2 h uq50x10_2k uq50x10_2n => ?_
         have uq50x10_2q : ∀ b, ob uq50x10_2 b → b < ws51.heap.size → ob v31 b := fun b hb hl => uq50x2_2q b (uq50x10_2n b hb (Nat.lt_of_lt_of_le hl (hg52).size)) hl
         replace hg52 := Keep.step hg52 uq50x10_2k (fun x hx hl => uq50x2_2q x hx hl)
         refine wl_nil (whk_back hg52 (whk_ok 11 hg52 rfl want_none (by kernel_rfl) (by kernel_rfl) (by kernel_rfl) (fun w hk => r_assign (v := uq50x10_2) rfl) (whk_done (by kernel_rfl) (inBlock_normal (then_loop ?_)))))
         exact jend (uq50x10_2, ((x32 ++ y43.1) ++ [(⟨6, c, (c + 1), x11.n, []⟩ : Ins)])) ⟨h.cn _, hs⟩
        ·
         refine w_bsG (R := rIns) (vs := [(.agg #[(.int .i64 (6)), (.int .i64 (c)), (.int .i64 ((c + 1))), (.int .i64 (x11.n)), (.slice none 0 0)])]) (xs := [(⟨6, c, (c + 1), x11.n, []⟩ : Ins)]) h 124 ElemOf55 rfl rfl rfl ⟨⟨_, rfl, Rd2.nil⟩, trivial⟩ rfl fun w uq50x9_1 h uq50x9_1k uq50x9_1f => ?_
         have uq50x9_1q : ∀ b, ob uq50x9_1 b → ws51.heap.size ≤ b := fun b hb => Nat.le_trans hg52.size (uq50x9_1f b hb)
         replace hg52 := hg52.grow uq50x9_1k
         refine wl_nil (whk_back hg52 (whk_eff 2 (by kernel_rfl) rfl want_none ?_))
         have uq50x2_2z := hg52.size
         refine w_appGN (R := rIns) (m := y43.1) h 13 rfl (h.ownS 15 rfl) ElemOf55 rfl rfl rfl aq50x2_1.1 aq50x2_1.2 fun w uq50x2_2 h uq50x2_2k uq50x2_2n => ?_
         have uq50x2_2q : ∀ b, ob uq50x2_2 b → b < ws51.heap.size → ob v31 b := fun b hb hl => uq50x2_2n b hb (Nat.lt_of_lt_of_le hl (hg52).size)
         replace hg52 := hg52.same uq50x2_2k
         refine wl_nil (whk_back hg52 (whk_eff 10 (by kernel_rfl) rfl want_none ?_))
         have uq50x10_2z := hg52.size
         refine w_appGN (R := rIns) (m := [(⟨6, c, (c + 1), x11.n, []⟩ : Ins)]) h 13 rfl (h.ownS 124 rfl) ElemOf55 rfl rfl rfl aq50x10_1.1 aq50x10_1.2 fun w uq50x10_2 h uq50x10_2k uq50x10_2n => ?_
         have uq50x10_2q : ∀ b, ob uq50x10_2 b → b < ws51.heap.size → ob v31 b := fun b hb hl => uq50x2_2q b (uq50x10_2n b hb (Nat.lt_of_lt_of_le hl (hg52).size)) hl
         replace hg52 := Keep.step hg52 uq50x10_2k (fun x hx hl => uq50x2_2q x hx hl)
         refine wl_nil (whk_back hg52 (whk_ok 11 hg52 rfl want_none (by kernel_rfl) (by kernel_rfl) (by kernel_rfl) (fun w hk => r_assign (v := uq50x10_2) rfl) (whk_done (by kernel_rfl) (inBlock_normal (then_loop ?_)))))
         exact jend (uq50x10_2, ((x32 ++ y43.1) ++ [(⟨6, c, (c + 1), x11.n, []⟩ : Ins)])) ⟨h.cn _, hs⟩
       ·
        refine wc_seq (wc_region (wl_ok (r_eql rfl rfl) (wl_ok (r_assign (v := (.bool (decide ((x11.kind : Int) = 3)))) rfl) (wl_nil (then_normal (wc_ifb hs rfl (fun c53 hs => ?_) (fun c53 hs => ?_)))))))
        ·
         refine wc_region (wl_ok (r_move (v := v31) rfl) (wl_ok (r_move (v := (.int .i64 (c))) rfl) (wl_ok (r_build (pv := [(0, (.int .i64 (9))), (1, (.int .i64 (c)))]) (out := [(.int .i64 (9)), (.int .i64 (c)), (.int .i64 (0)), (.int .i64 (0)), (.slice none 0 0)]) Struct93 rfl ⟨0, 1, [(.int .i64 (9))], rfl, rfl, rfl, Nat.le_of_ble_eq_true rfl, ⟨1, 1, [(.int .i64 (c))], rfl, rfl, rfl, Nat.le_of_ble_eq_true rfl, rfl⟩⟩) (w_bs (R := rIns) (vs := [(.agg #[(.int .i64 (9)), (.int .i64 (c)), (.int .i64 (0)), (.int .i64 (0)), (.slice none 0 0)])]) (xs := [(⟨9, c, 0, 0, []⟩ : Ins)]) h 172 ElemOf55 rfl rfl rfl ⟨⟨_, rfl, Rd2.nil⟩, trivial⟩ rfl fun w u54 h => ?_))))
         obtain ⟨a55, hs⟩ := o_grd hs
         refine w_app (R := rIns) (m := [(⟨9, c, 0, 0, []⟩ : Ins)]) h 13 rfl (h.ownS 172 rfl) ElemOf55 rfl rfl rfl a55.1 a55.2 fun w u56 h => wl_ok (r_assign (v := u56) rfl) (wl_nil (inBlock_normal (then_loop ?_)))
         exact jend (u56, (x32 ++ [(⟨9, c, 0, 0, []⟩ : Ins)])) ⟨h.cn _, hs⟩
        ·
         refine wc_seq (wc_region (wl_ok (r_eql rfl rfl) (wl_ok (r_assign (v := (.bool (decide ((x11.kind : Int) = 4)))) rfl) (wl_nil (then_normal (wc_ifb hs rfl (fun c57 hs => ?_) (fun c57 hs => ?_)))))))
         ·
          refine wc_region (wl_ok (r_move (v := v31) rfl) (wl_ok (r_build (pv := [(0, (.int .i64 (10)))]) (out := [(.int .i64 (10)), (.int .i64 (0)), (.int .i64 (0)), (.int .i64 (0)), (.slice none 0 0)]) Struct93 rfl ⟨0, 1, [(.int .i64 (10))], rfl, rfl, rfl, Nat.le_of_ble_eq_true rfl, rfl⟩) (w_bs (R := rIns) (vs := [(.agg #[(.int .i64 (10)), (.int .i64 (0)), (.int .i64 (0)), (.int .i64 (0)), (.slice none 0 0)])]) (xs := [(⟨10, 0, 0, 0, []⟩ : Ins)]) h 173 ElemOf55 rfl rfl rfl ⟨⟨_, rfl, Rd2.nil⟩, trivial⟩ rfl fun w u58 h => ?_)))
          obtain ⟨a59, hs⟩ := o_grd hs
          refine w_app (R := rIns) (m := [(⟨10, 0, 0, 0, []⟩ : Ins)]) h 13 rfl (h.ownS 173 rfl) ElemOf55 rfl rfl rfl a59.1 a59.2 fun w u60 h => wl_ok (r_assign (v := u60) rfl) (wl_nil (inBlock_normal (then_loop ?_)))
          exact jend (u60, (x32 ++ [(⟨10, 0, 0, 0, []⟩ : Ins)])) ⟨h.cn _, hs⟩
         ·
          refine wc_seq (wc_region (wl_ok (r_eql rfl rfl) (wl_ok (r_assign (v := (.bool (decide ((x11.kind : Int) = 5)))) rfl) (wl_nil (then_normal (wc_ifb hs rfl (fun c61 hs => ?_) (fun c61 hs => ?_)))))))
          ·
           refine wc_region (wl_ok (r_move (v := v31) rfl) (wl_ok (r_move (v := (.int .i64 (c))) rfl) (wl_ok (r_build (pv := [(0, (.int .i64 (11))), (1, (.int .i64 (c)))]) (out := [(.int .i64 (11)), (.int .i64 (c)), (.int .i64 (0)), (.int .i64 (0)), (.slice none 0 0)]) Struct93 rfl ⟨0, 1, [(.int .i64 (11))], rfl, rfl, rfl, Nat.le_of_ble_eq_true rfl, ⟨1, 1, [(.int .i64 (c))], rfl, rfl, rfl, Nat.le_of_ble_eq_true rfl, rfl⟩⟩) (w_bs (R := rIns) (vs := [(.agg #[(.int .i64 (11)), (.int .i64 (c)), (.int .i64 (0)), (.int .i64 (0)), (.slice none 0 0)])]) (xs := [(⟨11, c, 0, 0, []⟩ : Ins)]) h 174 ElemOf55 rfl rfl rfl ⟨⟨_, rfl, Rd2.nil⟩, trivial⟩ rfl fun w u62 h => ?_))))
           obtain ⟨a63, hs⟩ := o_grd hs
           refine w_app (R := rIns) (m := [(⟨11, c, 0, 0, []⟩ : Ins)]) h 13 rfl (h.ownS 174 rfl) ElemOf55 rfl rfl rfl a63.1 a63.2 fun w u64 h => wl_ok (r_assign (v := u64) rfl) (wl_nil (inBlock_normal (then_loop ?_)))
           exact jend (u64, (x32 ++ [(⟨11, c, 0, 0, []⟩ : Ins)])) ⟨h.cn _, hs⟩
          ·
           refine wc_seq (wc_region (wl_ok (r_eql rfl rfl) (wl_ok (r_assign (v := (.bool (decide ((x11.kind : Int) = 8)))) rfl) (wl_nil (then_normal (wc_ifb hs rfl (fun c65 hs => ?_) (fun c65 hs => ?_)))))))
           ·
            refine wc_region (wl_ok (r_move (v := v31) rfl) (wl_ok (r_move (v := (.int .i64 (c))) rfl) (wl_ok (r_build (pv := [(0, (.int .i64 (8))), (1, (.int .i64 (c)))]) (out := [(.int .i64 (8)), (.int .i64 (c)), (.int .i64 (0)), (.int .i64 (0)), (.slice none 0 0)]) Struct93 rfl ⟨0, 1, [(.int .i64 (8))], rfl, rfl, rfl, Nat.le_of_ble_eq_true rfl, ⟨1, 1, [(.int .i64 (c))], rfl, rfl, rfl, Nat.le_of_ble_eq_true rfl, rfl⟩⟩) (w_bs (R := rIns) (vs := [(.agg #[(.int .i64 (8)), (.int .i64 (c)), (.int .i64 (0)), (.int .i64 (0)), (.slice none 0 0)])]) (xs := [(⟨8, c, 0, 0, []⟩ : Ins)]) h 175 ElemOf55 rfl rfl rfl ⟨⟨_, rfl, Rd2.nil⟩, trivial⟩ rfl fun w u66 h => ?_))))
            obtain ⟨a67, hs⟩ := o_grd hs
            refine w_app (R := rIns) (m := [(⟨8, c, 0, 0, []⟩ : Ins)]) h 13 rfl (h.ownS 175 rfl) ElemOf55 rfl rfl rfl a67.1 a67.2 fun w u68 h => wl_ok (r_assign (v := u68) rfl) (wl_nil (inBlock_normal (then_loop ?_)))
            exact jend (u68, (x32 ++ [(⟨8, c, 0, 0, []⟩ : Ins)])) ⟨h.cn _, hs⟩
           ·
            refine wc_join (σ := Bool) (inl [102, 103, 104]) (fun x69 => [(102, (.bool (x69)))]) (fun x69 w => SH w0 M BE w (hset [(1, .sr rStmt va a), (2, .sr rFun vb b), (6, .own rIns 93 v7 x8), (8, .rd rTok u21 x11.e), (9, .rd rTok u23 x11.f), (10, .rd rStmt u25 x11.a), (11, .rd rStmt u27 x11.b), (12, .blk b29 [(.int .i64 (x11.kind)), (.int .i64 (x11.n)), u21, u23, u25, u27]), (13, .own rIns 93 v31 x32)]) ∧ wandererref_codeOf_j73 F0 d x8 x32 x11 a b c nx13 x69 = some r) ?_ ?_
            ·
             rintro x69 w junk ⟨h, hs⟩
             refine wc_ifb hs rfl (fun c70 hs => ?_) (fun c70 hs => ?_)
             ·
              refine wc_seq (wc_region (wl_ok (r_fieldAddr Fld147x4 rfl) (wl_ok (r_ldB h 12 rfl One111 rfl rfl) (wl_ok (r_move (v := vb) rfl) (wl_ok (r_move (v := (.int .i64 (c))) rfl) (wl_ok (r_move (v := (.int .i64 ((d + (x8.length : Int))))) rfl) (wl_ok (r_move (v := v31) rfl) (wl_ok (r_len SliceOf55 rfl (h.ownS 13 rfl)) ?_))))))))
              obtain ⟨a71, hs⟩ := o_grd hs
              refine wl_ok (r_add rfl rfl a71) ?_
              obtain ⟨a72, hs⟩ := o_grd hs
              refine wl_ok (r_add rfl rfl a72) ?_
              obtain ⟨y73, e74, hs⟩ := o_bind hs
              refine w_call fnOk76 rfl rfl (ih _ _ h.lt u25 x11.a (h.rdS 10 rfl) vb b (h.srS 2 rfl) c (((d + (x8.length : Int)) + (x32.length : Int)) + 1) _ e74) ?_
              rintro _ w ⟨k78, u75, rfl, g76, g77⟩
              refine ⟨_, rfl, ?_⟩
              replace h := h.gotOwn 176 k78 g76 g77
              refine wl_ok (r_assign (v := u75) rfl) (wl_nil (then_normal (wc_seq (wc_region (wl_ok (r_move (v := (.int .i64 ((d + (x8.length : Int))))) rfl) (wl_ok (r_move (v := v31) rfl) (wl_ok (r_len SliceOf55 rfl (h.ownS 13 rfl)) ?_)))))))
              obtain ⟨a79, hs⟩ := o_grd hs
              refine wl_ok (r_add rfl rfl a79) ?_
              obtain ⟨a80, hs⟩ := o_grd hs
              refine wl_ok (r_add rfl rfl a80) (wl_ok (r_move (v := u75) rfl) (wl_ok (r_len SliceOf55 rfl (h.ownS 176 rfl)) ?_))
              obtain ⟨a81, hs⟩ := o_grd hs
              refine wl_ok (r_add rfl rfl a81) ?_
              obtain ⟨a82, hs⟩ := o_grd hs
              refine wl_ok (r_add rfl rfl a82) (wl_ok (r_assign (v := (.int .i64 ((((((d + (x8.length : Int)) + (x32.length : Int)) + 1) + (y73.length : Int)) + 1)))) rfl) (wl_nil (then_normal (wc_seq (wc_region (wl_ok (r_fieldAddr Fld147x5 rfl) (wl_ok (r_ldB h 12 rfl One111 rfl rfl) (wl_ok (r_move (v := vb) rfl) (wl_ok (r_move (v := (.int .i64 (c))) rfl) (wl_ok (r_move (v := (.int .i64 ((((((d + (x8.length : Int)) + (x32.length : Int)) + 1) + (y73.length : Int)) + 1)))) rfl) ?_))))))))))
              obtain ⟨y83, e84, hs⟩ := o_bind hs
              refine w_call fnOk76 rfl rfl (ih _ _ h.lt u27 x11.b (h.rdS 11 rfl) vb b (h.srS 2 rfl) c (((((d + (x8.length : Int)) + (x32.length : Int)) + 1) + (y73.length : Int)) + 1) _ e84) ?_
              rintro _ w ⟨k88, u85, rfl, g86, g87⟩
              refine ⟨_, rfl, ?_⟩
              replace h := h.gotOwn 177 k88 g86 g87
              refine wl_ok (r_assign (v := u85) rfl) (wl_nil (then_normal (wc_seq (wc_region (wl_ok (r_move (v := (.int .i64 ((((((d + (x8.length : Int)) + (x32.length : Int)) + 1) + (y73.length : Int)) + 1)))) rfl) (wl_ok (r_move (v := u85) rfl) (wl_ok (r_len SliceOf55 rfl (h.ownS 177 rfl)) ?_)))))))
              obtain ⟨a89, hs⟩ := o_grd hs
              refine wl_ok (r_add rfl rfl a89) (wl_ok (r_assign (v := (.int .i64 (((((((d + (x8.length : Int)) + (x32.length : Int)) + 1) + (y73.length : Int)) + 1) + (y83.length : Int))))) rfl) (wl_nil (then_normal (wc_join (σ := Int) (inl [19, 134, 135, 136, 137]) (fun x90 => [(19, (.int .i64 (x90)))]) (fun x90 w => SH w0 M BE w (hset [(1, .sr rStmt va a), (2, .sr rFun vb b), (6, .own rIns 93 v7 x8), (13, .own rIns 93 v31 x32), (176, .own rIns 93 u75 y73), (177, .own rIns 93 u85 y83)]) ∧ wandererref_codeOf_j74 x32 c d x8 y73 y83 nx13 x90 = some r) ?_ ?_))))
              ·
               rintro x90 w junk ⟨h, hs⟩
               refine wc_region (wl_ok (r_move (v := v31) rfl) (wl_ok (r_move (v := (.int .i64 (c))) rfl) (wl_ok (r_move (v := (.int .i64 ((((((d + (x8.length : Int)) + (x32.length : Int)) + 1) + (y73.length : Int)) + 1)))) rfl) (wl_ok (r_build (pv := [(0, (.int .i64 (13))), (1, (.int .i64 (c))), (2, (.int .i64 ((((((d + (x8.length : Int)) + (x32.length : Int)) + 1) + (y73.length : Int)) + 1))))]) (out := [(.int .i64 (13)), (.int .i64 (c)), (.int .i64 ((((((d + (x8.length : Int)) + (x32.length : Int)) + 1) + (y73.length : Int)) + 1))), (.int .i64 (0)), (.slice none 0 0)]) Struct93 rfl ⟨0, 1, [(.int .i64 (13))], rfl, rfl, rfl, Nat.le_of_ble_eq_true rfl, ⟨1, 1, [(.int .i64 (c))], rfl, rfl, rfl, Nat.le_of_ble_eq_true rfl, ⟨2, 1, [(.int .i64 ((((((d + (x8.length : Int)) + (x32.length : Int)) + 1) + (y73.length : Int)) + 1)))], rfl, rfl, rfl, Nat.le_of_ble_eq_true rfl, rfl⟩⟩⟩) (w_bs (R := rIns) (vs := [(.agg #[(.int .i64 (13)), (.int .i64 (c)), (.int .i64 ((((((d + (x8.length : Int)) + (x32.length : Int)) + 1) + (y73.length : Int)) + 1))), (.int .i64 (0)), (.slice none 0 0)])]) (xs := [(⟨13, c, (((((d + (x8.length : Int)) + (x32.length : Int)) + 1) + (y73.length : Int)) + 1), 0, []⟩ : Ins)]) h 178 ElemOf55 rfl rfl rfl ⟨⟨_, rfl, Rd2.nil⟩, trivial⟩ rfl fun w u91 h => ?_)))))
               obtain ⟨a92, hs⟩ := o_grd hs
               refine w_app (R := rIns) (m := [(⟨13, c, (((((d + (x8.length : Int)) + (x32.length : Int)) + 1) + (y73.length : Int)) + 1), 0, []⟩ : Ins)]) h 13 rfl (h.ownS 178 rfl) ElemOf55 rfl rfl rfl a92.1 a92.2 fun w u93 h => wl_ok (r_move (v := u75) rfl) ?_
               obtain ⟨a94, hs⟩ := o_grd hs
               refine w_app (R := rIns) (m := y73) h 13 rfl (h.ownS 176 rfl) ElemOf55 rfl rfl rfl a94.1 a94.2 fun w u95 h => wl_ok (r_move (v := (.int .i64 (x90))) rfl) (wl_ok (r_build (pv := [(0, (.int .i64 (12))), (2, (.int .i64 (x90)))]) (out := [(.int .i64 (12)), (.int .i64 (0)), (.int .i64 (x90)), (.int .i64 (0)), (.slice none 0 0)]) Struct93 rfl ⟨0, 1, [(.int .i64 (12))], rfl, rfl, rfl, Nat.le_of_ble_eq_true rfl, ⟨2, 1, [(.int .i64 (x90))], rfl, rfl, rfl, Nat.le_of_ble_eq_true rfl, rfl⟩⟩) (w_bs (R := rIns) (vs := [(.agg #[(.int .i64 (12)), (.int .i64 (0)), (.int .i64 (x90)), (.int .i64 (0)), (.slice none 0 0)])]) (xs := [(⟨12, 0, x90, 0, []⟩ : Ins)]) h 179 ElemOf55 rfl rfl rfl ⟨⟨_, rfl, Rd2.nil⟩, trivial⟩ rfl fun w u96 h => ?_))
               obtain ⟨a97, hs⟩ := o_grd hs
               refine w_app (R := rIns) (m := [(⟨12, 0, x90, 0, []⟩ : Ins)]) h 13 rfl (h.ownS 179 rfl) ElemOf55 rfl rfl rfl a97.1 a97.2 fun w u98 h => wl_ok (r_move (v := u85) rfl) ?_
               obtain ⟨a99, hs⟩ := o_grd hs
               refine w_app (R := rIns) (m := y83) h 13 rfl (h.ownS 177 rfl) ElemOf55 rfl rfl rfl a99.1 a99.2 fun w u100 h => wl_ok (r_assign (v := u100) rfl) (wl_nil (inBlock_normal (then_loop ?_)))
               exact jend (u100, ((((x32 ++ [(⟨13, c, (((((d + (x8.length : Int)) + (x32.length : Int)) + 1) + (y73.length : Int)) + 1), 0, []⟩ : Ins)]) ++ y73) ++ [(⟨12, 0, x90, 0, []⟩ : Ins)]) ++ y83)) ⟨h.cn _, hs⟩
              ·
               refine wc_seq (wc_region (wl_ok (r_fieldAddr Fld147x0 rfl) (wl_ok (r_ldB h 12 rfl One3 rfl rfl) (wl_ok (r_eql rfl rfl) (wl_nil (then_normal (wc_ifb hs rfl (fun c101 hs => ?_) (fun c101 hs => ?_))))))))
               ·
                refine wc_region (wl_ok (r_move (v := (.int .i64 ((d + (x8.length : Int))))) rfl) (wl_ok (r_assign (v := (.int .i64 ((d + (x8.length : Int))))) rfl) (wl_nil (then_loop ?_))))
                exact jend (d + (x8.length : Int)) ⟨h.cn _, hs⟩
               ·
                refine wc_skip (then_loop ?_)
                exact jend ((((((d + (x8.length : Int)) + (x32.length : Int)) + 1) + (y73.length : Int)) + 1) + (y83.length : Int)) ⟨h.cn _, hs⟩
             ·
              refine wc_skip (inBlock_normal (then_loop ?_))
              exact jend (v31, x32) ⟨h.cn _, hs⟩
            ·
             refine wc_seq (wc_region (wl_ok (r_eql rfl rfl) (wl_ok (r_assign (v := (.bool (decide ((x11.kind : Int) = 6)))) rfl) (wl_nil (then_normal (wc_ifb hs rfl (fun c102 hs => ?_) (fun c102 hs => ?_)))))))
             ·
              refine wc_skip (then_loop ?_)
              exact jend (decide ((x11.kind : Int) = 6)) ⟨h.cn _, hs⟩
             ·
              refine wc_region (wl_ok (r_eql rfl rfl) (wl_ok (r_assign (v := (.bool (decide ((x11.kind : Int) = 7)))) rfl) (wl_nil (then_loop ?_))))
              exact jend (decide ((x11.kind : Int) = 7)) ⟨h.cn _, hs⟩
    ·
     refine wc_seq (wc_region (wl_ok (r_fieldAddr Fld147x2 rfl) (wl_ok (r_ldB h 12 rfl One145 rfl rfl) (wl_ok (r_len SliceOf145 rfl (h.rdS 8 rfl)) (wl_ok (r_gtr rfl rfl) (wl_nil (then_normal (wc_ifb hs rfl (fun c103 hs => ?_) (fun c103 hs => ?_)))))))))
     ·
      refine wc_region (wl_ok (r_fieldAddr Fld147x2 rfl) (wl_ok (r_ldB h 12 rfl One145 rfl rfl) (wl_ok (r_move (v := vb) rfl) (wl_ok (r_move (v := (.int .i64 (c))) rfl) ?_))))
      obtain ⟨y104, e105, hs⟩ := o_bind hs
      refine w_call fnOk100 rfl rfl (wandererref_valued_c N _ _ h.lt u21 x11.e (h.rdS 8 rfl) vb b (h.srS 2 rfl) c _ e105) ?_
      rintro _ w ⟨k109, u106, rfl, g107, g108⟩
      refine ⟨_, rfl, ?_⟩
      replace h := h.gotOwn 180 k109 g107 g108
      refine wl_ok (r_move (v := (.tuple #[u106, (.int .i64 (y104.2))])) rfl) (wl_ok (r_extract rfl rfl) (wl_ok (r_extract rfl rfl) (wl_ok (r_assign (v := u106) rfl) (wl_nil (then_loop ?_)))))
      replace h := h.moveO 180 13 rfl rfl (by decide)
      exact jend (u106, y104.1) ⟨h.cn _, hs⟩
     ·
      refine wc_skip (then_loop ?_)
      replace h := h.nilO (R := rIns) (E := 93) 13
      exact jend ((.slice none 0 0), []) ⟨h.cn _, hs⟩
   ·
    rw [drop_ge (hik ▸ e14), each_nil] at hs
    refine wc_exit (then_exit (then_exit (inBlock_eq (then_normal (wc_seq (wc_region (wl_ok (r_move (v := v7) rfl) (wl_ok (r_assign (v := v7) rfl) (wl_nil (then_normal (wc_ret (fin1 (v := v7) Tryz.results76 rfl ?_))))))))))))
    obtain rfl := Option.some.inj hs
    exact ⟨h.grown, _, rfl, (h.outOwn 6 rfl).1, (h.outOwn 6 rfl).2⟩
def wandererref_Coded_j14 (x8 : List Proc) (x11 : Fun) (nx13 : List Proc → Option (List Proc)) (y26 : List Ins) : Option (List Proc) :=
  grd (Room 40 x8 [(⟨x11.params, 30, y26⟩ : Proc)]) (nx13 (x8 ++ [(⟨x11.params, 30, y26⟩ : Proc)]))
def wandererref_Coded_b15 (N : Nat) (a : List Fun) (x11 : Fun) (x8 : List Proc) (nx13 : List Proc → Option (List Proc)) : Option (List Proc) :=
  (wandererref_codeOf N x11.body a x11.locals 0).bind fun yq31x5_1 => grd (Room 56 yq31x5_1 [(⟨1, x11.locals, 0, 0, []⟩ : Ins), (⟨8, x11.locals, 0, 0, []⟩ : Ins)]) (wandererref_Coded_j14 x8 x11 nx13 (yq31x5_1 ++ [(⟨1, x11.locals, 0, 0, []⟩ : Ins), (⟨8, x11.locals, 0, 0, []⟩ : Ins)]))
def wandererref_Coded_k16 (x8 : List Proc) : Option (List Proc) :=
  some x8
def wandererref_Coded (N : Nat) (a : List Fun) : Option (List Proc) :=
  each (wandererref_Coded_b15 N a) wandererref_Coded_k16 a []
theorem wandererref_Coded_c (N : Nat) (w0 : World) (M : BS) (hM : ∀ b, M b → b < w0.heap.size) (va : Value) (a : List Fun) (ha : Rd2 rFun w0 BE M va a) (r : List Proc) (hs : wandererref_Coded N a = some r) :
    Calls Tryz.prog 39 #[va] w0 (fun e w' => Grow w0 w' ∧ ∃ u0, e = .returned (u0) ∧ OwnSl rProc 57 w' M u0 r ∧ (∀ b, ob u0 b → w0.heap.size ≤ b)) := by
 refine calls_start (args := [va]) Tryz.func39 rfl Tryz.ntmps39 (Nat.le_of_ble_eq_true rfl) ?_
 have h := SH.init hM
 replace h := h.argSr 1 ha none_own
 have hl_a := ha.len_le
 refine wc_seq (wc_region (wl_ok (r_assign (v := (.slice none 0 0)) rfl) (wl_nil (then_normal (wc_seq (wc_region (wl_ok (r_assign (v := (.slice none 0 0)) rfl) (wl_nil (then_normal (wc_seq (wc_seq (wc_region (wl_ok (r_move (v := va) rfl) (wl_ok (r_len SliceOf67 rfl (h.srS 1 rfl)) (wl_ok (r_move (v := (.int .i64 (0))) rfl) (wl_nil (then_normal (wc_block ?_))))))))))))))))))
 replace h := h.nilO (R := rProc) (E := 57) 5
 refine wc_lp (σ := Nat × Int × Value × List Proc) (inl [3, 5, 6, 9, 10, 11, 12, 13, 14, 15, 16, 17, 18, 19, 20, 21, 22, 23, 24, 25, 26, 27, 28, 29, 30, 31, 32, 33, 34, 35]) (fun ⟨k9, i10, v7, x8⟩ => [(3, v7), (9, (.int .i64 (i10)))]) (fun ⟨k9, i10, v7, x8⟩ w => SH w0 M BE w (hset [(1, .sr rFun va a), (5, .own rProc 57 v7 x8)]) ∧ i10 = (k9 : Int) ∧ each (wandererref_Coded_b15 N a) wandererref_Coded_k16 (a.drop k9) x8 = some r) (fun ⟨k9, i10, v7, x8⟩ => a.length - k9) ⟨0, 0, (.slice none 0 0), []⟩ ⟨rfl, rfl, trivial⟩ ?_ ?_
 ·
  exact ⟨h.cn _, rfl, hs⟩
 ·
  rintro ⟨k9, i10, v7, x8⟩ w junk ⟨h, hik, hs⟩
  refine wc_seq (wc_region ?_)
  refine wl_ok (r_lss rfl rfl) (wl_nil (then_normal ?_))
  refine wc_seq (wc_if rfl (fun e14 => ?_) (fun e14 => ?_))
  ·
   refine wc_skip (then_normal ?_)
   obtain ⟨x11, e15a, e15b⟩ := drop_lt (hik ▸ e14)
   rw [e15b, each_cons] at hs
   generalize hnx13 : each (wandererref_Coded_b15 N a) wandererref_Coded_k16 (a.drop (k9 + 1)) = nx13 at hs
   have e15r := nat_rng ((h.srS 1 rfl)).len_le hik e14
   refine wc_seq (wc_block (wc_seq (wc_region ?_)))
   obtain ⟨b17, o18, cs19, h, r20, i16⟩ := h.ixS 1 6 rfl SliceOf67 rfl (nat_nn hik) (get_nat hik e15a)
   obtain ⟨u21, rfl, g22⟩ := rFun_open r20
   replace h := h.knowRd 7 g22.up
   refine wl_ok (i16 _ _ _ _ _ _ _ _ _ rfl rfl) (wl_ok (r_ldPN (k := 0) (vs := [(.int .i64 (x11.params)), (.int .i64 (x11.locals)), u21]) h 6 rfl Many113 rfl rfl rfl (Nat.le_of_ble_eq_true rfl)) (w_allocN h 8 Many113 fun w b23 h => w_stN (vs := [(.int .i64 (x11.params)), (.int .i64 (x11.locals)), u21]) h 8 [(.int .i64 (x11.params)), (.int .i64 (x11.locals)), u21] rfl Many113 rfl rfl rfl rfl rfl (ones_cons rfl (ones_cons rfl (ones_cons (h.rdAt 7 rfl).one ones_nil))) fun w h => wl_nil (then_normal (wc_seq (wc_region (wl_ok (r_fieldAddr Fld113x0 rfl) (wl_ok (r_ldB h 8 rfl One3 rfl rfl) (wl_ok (r_build (pv := [(0, (.int .i64 (x11.params))), (1, (.int .i64 (30)))]) (out := [(.int .i64 (x11.params)), (.int .i64 (30)), (.slice none 0 0)]) Struct57 rfl ⟨0, 1, [(.int .i64 (x11.params))], rfl, rfl, rfl, Nat.le_of_ble_eq_true rfl, ⟨1, 1, [(.int .i64 (30))], rfl, rfl, rfl, Nat.le_of_ble_eq_true rfl, rfl⟩⟩) (w_allocN h 9 Many57 fun w b24 h => w_stN (vs := [(.int .i64 (x11.params)), (.int .i64 (30)), (.slice none 0 0)]) h 9 [(.int .i64 (x11.params)), (.int .i64 (30)), (.slice none 0 0)] rfl Many57 rfl rfl rfl rfl rfl (ones_cons rfl (ones_cons rfl (ones_cons rfl ones_nil))) fun w h => wl_nil (then_normal (wc_join (σ := Value × List Ins) (inl [16, 17, 18, 19, 20, 21, 22, 23, 24, 25, 26, 27, 28, 29, 30]) (fun ⟨v25, y26⟩ => []) (fun ⟨v25, y26⟩ w => SH w0 M BE w (hset [(1, .sr rFun va a), (5, .own rProc 57 v7 x8), (9, .blk b24 [(.int .i64 (x11.params)), (.int .i64 (30)), v25]), (70, .own rIns 93 v25 y26)]) ∧ wandererref_Coded_j14 x8 x11 nx13 y26 = some r) ?_ ?_)))))))))))
   ·
    rintro ⟨v25, y26⟩ w junk ⟨h, hs⟩
    refine wc_region (wl_ok (r_move (v := v7) rfl) (wl_ok (r_ldBN (vs := [(.int .i64 (x11.params)), (.int .i64 (30)), v25]) h 9 rfl Many57 rfl rfl rfl) ?_))
    replace h := h.freeze 70 rfl
    refine w_bs (R := rProc) (vs := [(.agg #[(.int .i64 (x11.params)), (.int .i64 (30)), v25])]) (xs := [(⟨x11.params, 30, y26⟩ : Proc)]) h 71 ElemOf22 rfl rfl rfl ⟨⟨_, rfl, (h.rdAt 70 rfl)⟩, trivial⟩ rfl fun w u27 h => ?_
    obtain ⟨a28, hs⟩ := o_grd hs
    refine w_app (R := rProc) (m := [(⟨x11.params, 30, y26⟩ : Proc)]) h 5 rfl (h.ownS 71 rfl) ElemOf22 rfl rfl rfl a28.1 a28.2 fun w u29 h => wl_ok (r_assign (v := u29) rfl) (wl_nil (inBlock_normal (then_normal (wc_region (wl_ok (r_add rfl rfl e15r) (wl_ok (r_move (v := (.int .i64 ((i10 + 1)))) rfl) (wl_nil (then_loop ?_))))))))
    subst hnx13
    exact lend ⟨k9 + 1, i10 + 1, u29, (x8 ++ [(⟨x11.params, 30, y26⟩ : Proc)])⟩ ⟨h.cn _, by omega, hs⟩ (by have := of_decide_eq_true e14; dsimp only; omega)
   ·
    refine wck_held (L := (fun x => x = b24)) mixed h fun w h => whk_ok 0 (Keep.refl _ _) rfl want_none (by kernel_rfl) (by kernel_rfl) (by kernel_rfl) (fun w hk => r_fieldAddr Fld113x2 rfl) (whk_ok 1 (Keep.refl _ _) rfl want_none (by kernel_rfl) (by kernel_rfl) (by kernel_rfl) (fun w hk => have h := h.loseC 9 rfl hk; r_ldB h 8 rfl One111 rfl rfl) (whk_ok 2 (Keep.refl _ _) rfl want_none (by kernel_rfl) (by kernel_rfl) (by kernel_rfl) (fun w hk => r_move (v := va) rfl) (whk_ok 3 (Keep.refl _ _) rfl want_none (by kernel_rfl) (by kernel_rfl) (by kernel_rfl) (fun w hk => r_fieldAddr Fld113x1 rfl) (whk_ok 4 (Keep.refl _ _) rfl want_none (by kernel_rfl) (by kernel_rfl) (by kernel_rfl) (fun w hk => have h := h.loseC 9 rfl hk; r_ldB h 8 rfl One3 rfl rfl) (whk_ok 6 (Keep.refl _ _) rfl want_none (by kernel_rfl) (by kernel_rfl) (by kernel_rfl) (fun w hk => r_fieldAddr Fld113x1 rfl) (whk_ok 7 (Keep.refl _ _) rfl want_none (by kernel_rfl) (by kernel_rfl) (by kernel_rfl) (fun w hk => have h := h.loseC 9 rfl hk; r_ldB h 8 rfl One3 rfl rfl) (whk_ok 8 (Keep.refl _ _) rfl want_none (by kernel_rfl) (by kernel_rfl) (by kernel_rfl) (fun w hk => r_build (pv := [(0, (.int .i64 (1))), (1, (.int .i64 (x11.locals)))]) (out := [(.int .i64 (1)), (.int .i64 (x11.locals)), (.int .i64 (0)), (.int .i64 (0)), (.slice none 0 0)]) Struct93 rfl ⟨0, 1, [(.int .i64 (1))], rfl, rfl, rfl, Nat.le_of_ble_eq_true rfl, ⟨1, 1, [(.int .i64 (x11.locals))], rfl, rfl, rfl, Nat.le_of_ble_eq_true rfl, rfl⟩⟩) (whk_ok 9 (Keep.refl _ _) rfl want_none (by kernel_rfl) (by kernel_rfl) (by kernel_rfl) (fun w hk => r_fieldAddr Fld113x1 rfl) (whk_ok 10 (Keep.refl _ _) rfl want_none (by kernel_rfl) (by kernel_rfl) (by kernel_rfl) (fun w hk => have h := h.loseC 9 rfl hk; r_ldB h 8 rfl One3 rfl rfl) (whk_ok 11 (Keep.refl _ _) rfl want_none (by kernel_rfl) (by kernel_rfl) (by kernel_rfl) (fun w hk => r_build (pv := [(0, (.int .i64 (8))), (1, (.int .i64 (x11.locals)))]) (out := [(.int .i64 (8)), (.int .i64 (x11.locals)), (.int .i64 (0)), (.int .i64 (0)), (.slice none 0 0)]) Struct93 rfl ⟨0, 1, [(.int .i64 (8))], rfl, rfl, rfl, Nat.le_of_ble_eq_true rfl, ⟨1, 1, [(.int .i64 (x11.locals))], rfl, rfl, rfl, Nat.le_of_ble_eq_true rfl, rfl⟩⟩) ?_))))))))))
    obtain ⟨yq31x5_1, eq31x5_2, hs⟩ := o_bind hs
    obtain ⟨aq31x13_1, hs⟩ := o_grd hs
    obtain ⟨ws32, ws32e⟩ : ∃ x, x = w := ⟨_, rfl⟩
    have hg33 : Keep (fun x => x = b24) ws32 w := ws32e ▸ Keep.refl (fun x => x = b24) w
    refine whk_at ws32e.symm (whk_eff2 5 12 (by kernel_rfl) rfl want_none rfl want_none ?_ ?_)
    ·
     refine w_call fnOk76 rfl rfl (wandererref_codeOf_c N _ _ h.lt u21 x11.body (h.rdS 7 rfl) va a (h.srS 1 rfl) x11.locals 0 _ eq31x5_2) ?_
     rintro _ w ⟨kq31x5_6, uq31x5_3, rfl, gq31x5_4, gq31x5_5⟩
     refine ⟨_, rfl, ?_⟩
     replace h := h.gotOwn 132 kq31x5_6 gq31x5_4 gq31x5_5
     have uq31x5_3q : ∀ b, ob uq31x5_3 b → ws32.heap.size ≤ b := fun b hb => Nat.le_trans hg33.size (gq31x5_5 b hb)
     replace hg33 := hg33.grow kq31x5_6
     refine wl_nil (whk_back hg33 (whk_eff 12 (by kernel_rfl) rfl want_none (w_bsG (R := rIns) (vs := [(.agg #[(.int .i64 (1)), (.int .i64 (x11.locals)), (.int .i64 (0)), (.int .i64 (0)), (.slice none 0 0)]), (.agg #[(.int .i64 (8)), (.int .i64 (x11.locals)), (.int .i64 (0)), (.int .i64 (0)), (.slice none 0 0)])]) (xs := [(⟨1, x11.locals, 0, 0, []⟩ : Ins), (⟨8, x11.locals, 0, 0, []⟩ : Ins)]) h 216 ElemOf55 rfl rfl rfl ⟨⟨_, rfl, Rd2.nil⟩, ⟨⟨_, rfl, Rd2.nil⟩, trivial⟩⟩ rfl fun w uq31x12_1 h uq31x12_1k uq31x12_1f => ?_)))
     have uq31x12_1q : ∀ b, ob uq31x12_1 b → ws32.heap.size ≤ b := fun b hb => Nat.le_trans hg33.size (uq31x12_1f b hb)
     replace hg33 := hg33.grow uq31x12_1k
     refine wl_nil (whk_back hg33 (whk_eff 13 (by kernel_rfl) rfl want_none ?_))
     have uq31x13_2z := hg33.size
     refine w_appGN (R := rIns) (m := [(⟨1, x11.locals, 0, 0, []⟩ : Ins), (⟨8, x11.locals, 0, 0, []⟩ : Ins)]) h 132 rfl (h.ownS 216 rfl) ElemOf55 rfl rfl rfl aq31x13_1.1 aq31x13_1.2 fun w uq31x13_2 h uq31x13_2k uq31x13_2n => ?_
     replace hg33 := hg33.freshK uq31x13_2k uq31x5_3q
     have uq31x13_2q := still_new uq31x13_2z uq31x5_3q uq31x13_2n
     refine wl_nil (whk_back hg33 (whk_ok 14 hg33 rfl want_none (by kernel_rfl) (by kernel_rfl) (by kernel_rfl) (fun w hk => r_fieldAddr Fld57x2 rfl) (whk_eff 15 (by kernel_rfl) rfl want_none (w_st1G h 9 [(.int .i64 (x11.params)), (.int .i64 (30)), uq31x13_2] rfl One55 rfl rfl rfl rfl (h.ownAt 132 rfl).one fun w h kq31x15_1 => ?_))))
     replace hg33 := hg33.same kq31x15_1
     refine wl_nil (whk_back hg33 (whk_done (by kernel_rfl) (then_loop ?_)))
     replace h := h.moveO 132 70 rfl rfl (by decide)
     exact jend (uq31x13_2, (yq31x5_1 ++ [(⟨1, x11.locals, 0, 0, []⟩ : Ins), (⟨8, x11.locals, 0, 0, []⟩ : Ins)])) ⟨h.cn _, hs⟩
    ·
     refine w_bsG (R := rIns) (vs := [(.agg #[(.int .i64 (1)), (.int .i64 (x11.locals)), (.int .i64 (0)), (.int .i64 (0)), (.slice none 0 0)]), (.agg #[(.int .i64 (8)), (.int .i64 (x11.locals)), (.int .i64 (0)), (.int .i64 (0)), (.slice none 0 0)])]) (xs := [(⟨1, x11.locals, 0, 0, []⟩ : Ins), (⟨8, x11.locals, 0, 0, []⟩ : Ins)]) h 216 ElemOf55 rfl rfl rfl ⟨⟨_, rfl, Rd2.nil⟩, ⟨⟨_, rfl, Rd2.nil⟩, trivial⟩⟩ rfl fun w uq31x12_1 h uq31x12_1k uq31x12_1f => ?_
     have uq31x12_1q : ∀ b, ob uq31x12_1 b → ws32.heap.size ≤ b := fun b hb => Nat.le_trans hg33.size (uq31x12_1f b hb)
     replace hg33 := hg33.grow uq31x12_1k
     refine wl_nil (whk_back hg33 (whk_eff 5 (by kernel_rfl) rfl want_none (w_call fnOk76 rfl rfl (wandererref_codeOf_c N _ _ h.lt u21 x11.body (h.rdS 7 rfl) va a (h.srS 1 rfl) x11.locals 0 _ eq31x5_2) ?_)))
     rintro _ w ⟨kq31x5_6, uq31x5_3, rfl, gq31x5_4, gq31x5_5⟩
     refine ⟨_, rfl, ?_⟩
     replace h := h.gotOwn 132 kq31x5_6 gq31x5_4 gq31x5_5
     have uq31x5_3q : ∀ b, ob uq31x5_3 b → ws32.heap.size ≤ b := fun b hb => Nat.le_trans hg33.size (gq31x5_5 b hb)
     replace hg33 := hg33.grow kq31x5_6
     refine wl_nil (whk_back hg33 (whk_eff 13 (by kernel_rfl) rfl want_none ?_))
     have uq31x13_2z := hg33.size
     refine w_appGN (R := rIns) (m := [(⟨1, x11.locals, 0, 0, []⟩ : Ins), (⟨8, x11.locals, 0, 0, []⟩ : Ins)]) h 132 rfl (h.ownS 216 rfl) ElemOf55 rfl rfl rfl aq31x13_1.1 aq31x13_1.2 fun w uq31x13_2 h uq31x13_2k uq31x13_2n => ?_
     replace hg33 := hg33.freshK uq31x13_2k uq31x5_3q
     have uq31x13_2q := still_new uq31x13_2z uq31x5_3q uq31x13_2n
     refine wl_nil (whk_back hg33 (whk_ok 14 hg33 rfl want_none (by kernel_rfl) (by kernel_rfl) (by kernel_rfl) (fun w hk => r_fieldAddr Fld57x2 rfl) (whk_eff 15 (by kernel_rfl) rfl want_none (w_st1G h 9 [(.int .i64 (x11.params)), (.int .i64 (30)), uq31x13_2] rfl One55 rfl rfl rfl rfl (h.ownAt 132 rfl).one fun w h kq31x15_1 => ?_))))
     replace hg33 := hg33.same kq31x15_1
     refine wl_nil (whk_back hg33 (whk_done (by kernel_rfl) (then_loop ?_)))
     replace h := h.moveO 132 70 rfl rfl (by decide)
     exact jend (uq31x13_2, (yq31x5_1 ++ [(⟨1, x11.locals, 0, 0, []⟩ : Ins), (⟨8, x11.locals, 0, 0, []⟩ : Ins)])) ⟨h.cn _, hs⟩
  ·
   rw [drop_ge (hik ▸ e14), each_nil] at hs
   refine wc_exit (then_exit (then_exit (inBlock_eq (then_normal (wc_seq (wc_region (wl_ok (r_move (v := v7) rfl) (wl_ok (r_assign (v := v7) rfl) (wl_nil (then_normal (wc_ret (fin1 (v := v7) Tryz.results39 rfl ?_))))))))))))
   obtain rfl := Option.some.inj hs
   exact ⟨h.grown, _, rfl, (h.outOwn 5 rfl).1, (h.outOwn 5 rfl).2⟩
def code_uses_j6 (x6 : Bool) : Bool × Bool × Bool × Bool :=
  bif x6 then (false, false, false, true) else (false, false, false, false)
def code_uses_j5 (a : Int) (x3 : Bool) : Bool × Bool × Bool × Bool :=
  bif x3 then (true, true, false, true) else bif decide ((a : Int) = 3) then (true, true, true, true) else bif decide ((a : Int) = 10) then code_uses_j6 (decide ((a : Int) = 10)) else code_uses_j6 (decide ((a : Int) = 12))
def code_uses_j4 (a : Int) (x1 : Bool) : Bool × Bool × Bool × Bool :=
  bif x1 then (true, false, false, true) else bif decide ((a : Int) = 2) then code_uses_j5 a (decide ((a : Int) = 2)) else bif decide ((a : Int) = 4) then code_uses_j5 a (decide ((a : Int) = 4)) else code_uses_j5 a (decide ((a : Int) = 6))
def code_uses (a : Int) : Bool × Bool × Bool × Bool :=
  bif decide ((a : Int) = 1) then code_uses_j4 a (decide ((a : Int) = 1)) else bif decide ((a : Int) = 5) then code_uses_j4 a (decide ((a : Int) = 5)) else bif decide ((a : Int) = 8) then code_uses_j4 a (decide ((a : Int) = 8)) else bif decide ((a : Int) = 9) then code_uses_j4 a (decide ((a : Int) = 9)) else bif decide ((a : Int) = 11) then code_uses_j4 a (decide ((a : Int) = 11)) else bif decide ((a : Int) = 13) then code_uses_j4 a (decide ((a : Int) = 13)) else code_uses_j4 a (decide ((a : Int) = 7))
theorem code_uses_c (w0 : World) (M : BS) (hM : ∀ b, M b → b < w0.heap.size) (a : Int) (r : Bool × Bool × Bool × Bool) (hs : code_uses a = r) :
    Calls Tryz.prog 115 #[(.int .i64 (a))] w0 (fun e w' => Grow w0 w' ∧ e = .returned (.tuple #[.bool r.1, .bool r.2.1, .bool r.2.2.1, .bool r.2.2.2])) := by
 refine calls_start (args := [(.int .i64 (a))]) Tryz.func115 rfl Tryz.ntmps115 (Nat.le_of_ble_eq_true rfl) ?_
 have h := SH.init hM
 refine wc_seq (wc_region (wl_ok (r_assign (v := (.bool (false))) rfl) (wl_ok (r_assign (v := (.bool (false))) rfl) (wl_ok (r_assign (v := (.bool (false))) rfl) (wl_ok (r_assign (v := (.bool (false))) rfl) (wl_nil (then_normal (wc_seq (wc_seq (wc_region (wl_ok (r_move (v := (.int .i64 (a))) rfl) (wl_nil (then_normal (wc_block (wc_join (σ := Bool) (inl [7, 8, 9, 10, 11, 12, 13, 14]) (fun x1 => [(7, (.bool (x1)))]) (fun x1 w => SH w0 M BE w (hset []) ∧ code_uses_j4 a x1 = r) ?_ ?_)))))))))))))))
 ·
  rintro x1 w junk ⟨h, hs⟩
  refine wc_ifb hs rfl (fun c2 hs => ?_) (fun c2 hs => ?_)
  ·
   refine wc_seq (wc_region (wl_ok (r_assign (v := (.bool (true))) rfl) (wl_ok (r_assign (v := (.bool (false))) rfl) (wl_ok (r_assign (v := (.bool (false))) rfl) (wl_ok (r_assign (v := (.bool (true))) rfl) (wl_nil (then_normal (wc_ret (inBlock_ret (then_ret (fin4 (v1 := (.bool (true))) (v2 := (.bool (false))) (v3 := (.bool (false))) (v4 := (.bool (true))) Tryz.results115 rfl rfl rfl rfl ?_)))))))))))
   obtain rfl := hs
   exact ⟨h.grown, rfl⟩
  ·
   refine wc_join (σ := Bool) (inl [15, 16, 17, 18]) (fun x3 => [(15, (.bool (x3)))]) (fun x3 w => SH w0 M BE w (hset []) ∧ code_uses_j5 a x3 = r) ?_ ?_
   ·
    rintro x3 w junk ⟨h, hs⟩
    refine wc_ifb hs rfl (fun c4 hs => ?_) (fun c4 hs => ?_)
    ·
     refine wc_seq (wc_region (wl_ok (r_assign (v := (.bool (true))) rfl) (wl_ok (r_assign (v := (.bool (true))) rfl) (wl_ok (r_assign (v := (.bool (false))) rfl) (wl_ok (r_assign (v := (.bool (true))) rfl) (wl_nil (then_normal (wc_ret (inBlock_ret (then_ret (fin4 (v1 := (.bool (true))) (v2 := (.bool (true))) (v3 := (.bool (false))) (v4 := (.bool (true))) Tryz.results115 rfl rfl rfl rfl ?_)))))))))))
     obtain rfl := hs
     exact ⟨h.grown, rfl⟩
    ·
     refine wc_seq (wc_region (wl_ok (r_eql rfl rfl) (wl_ok (r_assign (v := (.bool (decide ((a : Int) = 3)))) rfl) (wl_nil (then_normal (wc_ifb hs rfl (fun c5 hs => ?_) (fun c5 hs => ?_)))))))
     ·
      refine wc_seq (wc_region (wl_ok (r_assign (v := (.bool (true))) rfl) (wl_ok (r_assign (v := (.bool (true))) rfl) (wl_ok (r_assign (v := (.bool (true))) rfl) (wl_ok (r_assign (v := (.bool (true))) rfl) (wl_nil (then_normal (wc_ret (inBlock_ret (then_ret (fin4 (v1 := (.bool (true))) (v2 := (.bool (true))) (v3 := (.bool (true))) (v4 := (.bool (true))) Tryz.results115 rfl rfl rfl rfl ?_)))))))))))
      obtain rfl := hs
      exact ⟨h.grown, rfl⟩
     ·
      refine wc_join (σ := Bool) (inl [21, 22, 23]) (fun x6 => [(21, (.bool (x6)))]) (fun x6 w => SH w0 M BE w (hset []) ∧ code_uses_j6 x6 = r) ?_ ?_
      ·
       rintro x6 w junk ⟨h, hs⟩
       refine wc_ifb hs rfl (fun c7 hs => ?_) (fun c7 hs => ?_)
       ·
        refine wc_seq (wc_region (wl_ok (r_assign (v := (.bool (false))) rfl) (wl_ok (r_assign (v := (.bool (false))) rfl) (wl_ok (r_assign (v := (.bool (false))) rfl) (wl_ok (r_assign (v := (.bool (true))) rfl) (wl_nil (then_normal (wc_ret (inBlock_ret (then_ret (fin4 (v1 := (.bool (false))) (v2 := (.bool (false))) (v3 := (.bool (false))) (v4 := (.bool (true))) Tryz.results115 rfl rfl rfl rfl ?_)))))))))))
        obtain rfl := hs
        exact ⟨h.grown, rfl⟩
       ·
        refine wc_skip (inBlock_normal (then_normal (wc_seq (wc_region (wl_ok (r_assign (v := (.bool (false))) rfl) (wl_ok (r_assign (v := (.bool (false))) rfl) (wl_ok (r_assign (v := (.bool (false))) rfl) (wl_ok (r_assign (v := (.bool (false))) rfl) (wl_nil (then_normal (wc_ret (fin4 (v1 := (.bool (false))) (v2 := (.bool (false))) (v3 := (.bool (false))) (v4 := (.bool (false))) Tryz.results115 rfl rfl rfl rfl ?_))))))))))))
        obtain rfl := hs
        exact ⟨h.grown, rfl⟩
      ·
       refine wc_seq (wc_region (wl_ok (r_eql rfl rfl) (wl_ok (r_assign (v := (.bool (decide ((a : Int) = 10)))) rfl) (wl_nil (then_normal (wc_ifb hs rfl (fun c8 hs => ?_) (fun c8 hs => ?_)))))))
       ·
        refine wc_skip (then_loop ?_)
        exact jend (decide ((a : Int) = 10)) ⟨h.cn _, hs⟩
       ·
        refine wc_region (wl_ok (r_eql rfl rfl) (wl_ok (r_assign (v := (.bool (decide ((a : Int) = 12)))) rfl) (wl_nil (then_loop ?_))))
        exact jend (decide ((a : Int) = 12)) ⟨h.cn _, hs⟩
   ·
    refine wc_seq (wc_region (wl_ok (r_eql rfl rfl) (wl_ok (r_assign (v := (.bool (decide ((a : Int) = 2)))) rfl) (wl_nil (then_normal (wc_ifb hs rfl (fun c9 hs => ?_) (fun c9 hs => ?_)))))))
    ·
     refine wc_skip (then_loop ?_)
     exact jend (decide ((a : Int) = 2)) ⟨h.cn _, hs⟩
    ·
     refine wc_seq (wc_region (wl_ok (r_eql rfl rfl) (wl_ok (r_assign (v := (.bool (decide ((a : Int) = 4)))) rfl) (wl_nil (then_normal (wc_ifb hs rfl (fun c10 hs => ?_) (fun c10 hs => ?_)))))))
     ·
      refine wc_skip (then_loop ?_)
      exact jend (decide ((a : Int) = 4)) ⟨h.cn _, hs⟩
     ·
      refine wc_region (wl_ok (r_eql rfl rfl) (wl_ok (r_assign (v := (.bool (decide ((a : Int) = 6)))) rfl) (wl_nil (then_loop ?_))))
      exact jend (decide ((a : Int) = 6)) ⟨h.cn _, hs⟩
 ·
  refine wc_seq (wc_region (wl_ok (r_eql rfl rfl) (wl_ok (r_assign (v := (.bool (decide ((a : Int) = 1)))) rfl) (wl_nil (then_normal (wc_ifb hs rfl (fun c11 hs => ?_) (fun c11 hs => ?_)))))))
  ·
   refine wc_skip (then_loop ?_)
   exact jend (decide ((a : Int) = 1)) ⟨h.cn _, hs⟩
  ·
   refine wc_seq (wc_region (wl_ok (r_eql rfl rfl) (wl_ok (r_assign (v := (.bool (decide ((a : Int) = 5)))) rfl) (wl_nil (then_normal (wc_ifb hs rfl (fun c12 hs => ?_) (fun c12 hs => ?_)))))))
   ·
    refine wc_skip (then_loop ?_)
    exact jend (decide ((a : Int) = 5)) ⟨h.cn _, hs⟩
   ·
    refine wc_seq (wc_region (wl_ok (r_eql rfl rfl) (wl_ok (r_assign (v := (.bool (decide ((a : Int) = 8)))) rfl) (wl_nil (then_normal (wc_ifb hs rfl (fun c13 hs => ?_) (fun c13 hs => ?_)))))))
    ·
     refine wc_skip (then_loop ?_)
     exact jend (decide ((a : Int) = 8)) ⟨h.cn _, hs⟩
    ·
     refine wc_seq (wc_region (wl_ok (r_eql rfl rfl) (wl_ok (r_assign (v := (.bool (decide ((a : Int) = 9)))) rfl) (wl_nil (then_normal (wc_ifb hs rfl (fun c14 hs => ?_) (fun c14 hs => ?_)))))))
     ·
      refine wc_skip (then_loop ?_)
      exact jend (decide ((a : Int) = 9)) ⟨h.cn _, hs⟩
     ·
      refine wc_seq (wc_region (wl_ok (r_eql rfl rfl) (wl_ok (r_assign (v := (.bool (decide ((a : Int) = 11)))) rfl) (wl_nil (then_normal (wc_ifb hs rfl (fun c15 hs => ?_) (fun c15 hs => ?_)))))))
      ·
       refine wc_skip (then_loop ?_)
       exact jend (decide ((a : Int) = 11)) ⟨h.cn _, hs⟩
      ·
       refine wc_seq (wc_region (wl_ok (r_eql rfl rfl) (wl_ok (r_assign (v := (.bool (decide ((a : Int) = 13)))) rfl) (wl_nil (then_normal (wc_ifb hs rfl (fun c16 hs => ?_) (fun c16 hs => ?_)))))))
       ·
        refine wc_skip (then_loop ?_)
        exact jend (decide ((a : Int) = 13)) ⟨h.cn _, hs⟩
       ·
        refine wc_region (wl_ok (r_eql rfl rfl) (wl_ok (r_assign (v := (.bool (decide ((a : Int) = 7)))) rfl) (wl_nil (then_loop ?_))))
        exact jend (decide ((a : Int) = 7)) ⟨h.cn _, hs⟩
def code_check_1_ (a : Bool) (b : Int) (z0_0 : Int) : Bool :=
  ((!a) || (decide ((0 : Int) ≤ b) && decide ((b : Int) < z0_0)))
theorem code_check_1__c (w0 : World) (M : BS) (hM : ∀ b, M b → b < w0.heap.size) (a : Bool) (b : Int) (z0_0 : Int) (q0 : Nat) (hq0 : ∃ E, w0.heap[q0]? = some (.cells #[(.int .i64 (z0_0))] E (0, 0))) (r : Bool) (hs : code_check_1_ a b z0_0 = r) :
    Calls Tryz.prog 116 #[(.bool (a)), (.int .i64 (b)), (.pointer (some ⟨q0, 0, none⟩))] w0 (fun e w' => Grow w0 w' ∧ e = .returned (.bool r)) := by
 refine calls_start (args := [(.bool (a)), (.int .i64 (b)), (.pointer (some ⟨q0, 0, none⟩))]) Tryz.func116 rfl Tryz.ntmps116 (Nat.le_of_ble_eq_true rfl) ?_
 have h := SH.init hM
 replace h := h.argPt 1 (cs := [(.int .i64 (z0_0))]) hq0 none_own
 refine wc_seq (wc_region (wl_ok (r_assign (v := (.bool (false))) rfl) (wl_nil (then_normal (wc_seq (wc_region (wl_ok (r_move (v := (.bool (a))) rfl) (wl_ok (r_notb rfl) (wl_ok (r_move (v := (.bool ((!a)))) rfl) (wl_gd0 rfl rfl (fun q => r_move (v := (.int .i64 (b))) rfl) (wl_gd0 rfl rfl (fun q => r_geq (gvt q) rfl) (wl_gd0 rfl rfl (fun q => r_move (v := (.bool (decide ((0 : Int) ≤ b)))) (gvt q)) (wl_gd ((!a) == false) rfl rfl (fun q => r_move (v := (.int .i64 (b))) rfl) (wl_gd ((!a) == false) rfl rfl (fun q => r_ldP (k := 0) h 1 rfl One3 rfl rfl) (wl_gd ((!a) == false) rfl rfl (fun q => r_lss (gvt q) (gvt q)) (wl_gd0 rfl rfl (fun q => r_pand (gvt q) (gvn q) evc) (wl_ok (r_por rfl rfl evc) (wl_ok (r_assign (v := (.bool (((!a) || (decide ((0 : Int) ≤ b) && decide ((b : Int) < z0_0)))))) rfl) (wl_nil (then_normal (wc_ret (fin1 (v := (.bool (((!a) || (decide ((0 : Int) ≤ b) && decide ((b : Int) < z0_0)))))) Tryz.results116 rfl ?_))))))))))))))))))))))
 obtain rfl := hs
 exact ⟨h.grown, rfl⟩
def code_check_b8 (d : Int) (x20 : Int) (s : Unit) (nx22 : Unit → Option Int) : Option Int :=
  bif (!(decide ((0 : Int) ≤ x20) && decide ((x20 : Int) < d))) then some 3 else nx22 ()
def code_check_k9 (s : Unit) : Option Int :=
  some 0
def code_check_j5 (x9 : Bool) (a : Ins) (b : Int) (y12 : Int) (c : List Proc) (y13 : Int) (x10 : Int) (d : Int) (y14 : Int) : Option Int :=
  bif (!x9) then some 3 else bif (((decide ((a.a : Int) ≠ y14) || decide ((a.b : Int) ≠ y12)) || decide ((a.c : Int) ≠ y13)) || decide (((a.args.length : Int) : Int) ≠ x10)) then some 4 else bif decide ((a.op : Int) = 7) then each (code_check_b8 d) code_check_k9 a.args () else some 0
def code_check_j4 (a : Ins) (b : Int) (c : List Proc) (d : Int) (x9 : Bool) (x10 : Int) (y11 : Int) (y12 : Int) (y13 : Int) : Option Int :=
  bif decide ((a.op : Int) = 12) then code_check_j5 x9 a b y12 c y13 x10 d 0 else code_check_j5 x9 a b y12 c y13 x10 d y11
def code_check_j12 (a : Ins) (b : Int) (c : List Proc) (d : Int) (x63 : Bool) : Option Int :=
  bif x63 then code_check_j4 a b c d ((code_uses a.op).2.2.2) 0 a.a 0 0 else bif decide ((a.op : Int) = 10) then code_check_j4 a b c d ((code_uses a.op).2.2.2) 0 0 0 0 else code_check_j4 a b c d ((code_uses a.op).2.2.2) 0 a.a a.b 0
def code_check_j11 (a : Ins) (b : Int) (c : List Proc) (d : Int) (e : Int) (x50 : Bool) : Option Int :=
  bif x50 then code_check_j4 a b c d (decide ((0 : Int) ≤ a.b) && decide ((a.b : Int) < e)) 0 a.a a.b 0 else bif decide ((a.op : Int) = 7) then bif (decide ((a.b : Int) < 0) || decide (((c.length : Int) : Int) ≤ a.b)) then some 5 else (idx c a.b).bind fun x54 => code_check_j4 a b c d ((code_uses a.op).2.2.2) x54.params a.a a.b 0 else bif decide ((a.op : Int) = 8) then code_check_j12 a b c d (decide ((a.op : Int) = 8)) else bif decide ((a.op : Int) = 9) then code_check_j12 a b c d (decide ((a.op : Int) = 9)) else code_check_j12 a b c d (decide ((a.op : Int) = 11))
def code_check_j10 (a : Ins) (b : Int) (c : List Proc) (d : Int) (e : Int) (x34 : Bool) : Option Int :=
  bif x34 then code_check_j4 a b c d (decide ((0 : Int) ≤ a.c) && decide ((a.c : Int) < 4)) 0 a.a a.b a.c else bif decide ((a.op : Int) = 3) then bif decide (((a.args.length : Int) : Int) = 1) then (idx a.args 0).bind fun x38 => code_check_j4 a b c d (decide ((1 : Int) ≤ x38) && decide ((x38 : Int) ≤ 5)) 1 a.a a.b a.c else code_check_j4 a b c d false 1 a.a a.b a.c else bif decide ((a.op : Int) = 12) then code_check_j11 a b c d e (decide ((a.op : Int) = 12)) else code_check_j11 a b c d e (decide ((a.op : Int) = 13))
def code_check (a : Ins) (b : Int) (c : List Proc) (d : Int) (e : Int) : Option Int :=
  bif (!(code_uses a.op).2.2.2) then some 4 else bif (((!((!(code_uses a.op).1) || (decide ((0 : Int) ≤ a.a) && decide ((a.a : Int) < d)))) || (!(code_check_1_ ((code_uses a.op).2.1) a.b d))) || (!(code_check_1_ ((code_uses a.op).2.2.1) a.c d))) then some 3 else bif decide ((a.op : Int) = 1) then code_check_j4 a b c d (decide ((-1000000000 : Int) ≤ a.b) && decide ((a.b : Int) ≤ 1000000000)) 0 a.a a.b 0 else bif decide ((a.op : Int) = 5) then code_check_j4 a b c d (decide ((1 : Int) ≤ a.b) && decide ((a.b : Int) ≤ 4)) 0 a.a a.b 0 else bif decide ((a.op : Int) = 4) then code_check_j10 a b c d e (decide ((a.op : Int) = 4)) else code_check_j10 a b c d e (decide ((a.op : Int) = 6))
theorem code_check_c (w0 : World) (M : BS) (hM : ∀ b, M b → b < w0.heap.size) (a : Ins) (va4 : Value) (ha4 : Rd2 rInt w0 BE M va4 a.args) (b : Int) (vc : Value) (c : List Proc) (hc : Rd2 rProc w0 BE M vc c) (d : Int) (e : Int) (r : Int) (hs : code_check a b c d e = some r) :
    Calls Tryz.prog 86 #[(.agg #[(.int .i64 (a.op)), (.int .i64 (a.a)), (.int .i64 (a.b)), (.int .i64 (a.c)), va4]), (.int .i64 (b)), vc, (.int .i64 (d)), (.int .i64 (e))] w0 (fun e w' => Grow w0 w' ∧ e = .returned (.int .i64 r)) := by
 refine calls_start (args := [(.agg #[(.int .i64 (a.op)), (.int .i64 (a.a)), (.int .i64 (a.b)), (.int .i64 (a.c)), va4]), (.int .i64 (b)), vc, (.int .i64 (d)), (.int .i64 (e))]) Tryz.func86 rfl Tryz.ntmps86 (Nat.le_of_ble_eq_true rfl) ?_
 have h := SH.init hM
 replace h := h.argSr 1 ha4 none_own
 replace h := h.argSr 2 hc (hupd_own_sr none_own)
 have hl_c := hc.len_le
 refine wc_seq (wc_region (w_box (cs := [(.int .i64 (a.op)), (.int .i64 (a.a)), (.int .i64 (a.b)), (.int .i64 (a.c)), va4]) h 3 rfl rfl fun w b1 h => w_box (cs := [(.int .i64 (d))]) h 4 rfl rfl fun w b2 h => wl_ok (r_assign (v := (.int .i64 (0))) rfl) (wl_nil (then_normal (wc_seq (wc_region (wl_ok (r_fieldAddr Fld93x0 rfl) (wl_ok (r_ldB h 3 rfl One3 rfl rfl) (w_call fnOk115 rfl rfl (code_uses_c _ _ h.lt a.op _ rfl) ?_)))))))))
 rintro _ w ⟨k3, rfl⟩
 refine ⟨_, rfl, ?_⟩
 replace h := h.grow k3
 refine wl_ok (r_move (v := (.tuple #[(.bool ((code_uses a.op).1)), (.bool ((code_uses a.op).2.1)), (.bool ((code_uses a.op).2.2.1)), (.bool ((code_uses a.op).2.2.2))])) rfl) (wl_ok (r_extract rfl rfl) (wl_ok (r_extract rfl rfl) (wl_ok (r_extract rfl rfl) (wl_ok (r_extract rfl rfl) (wl_ok (r_assign (v := (.bool ((code_uses a.op).1))) rfl) (wl_ok (r_assign (v := (.bool ((code_uses a.op).2.1))) rfl) (wl_ok (r_assign (v := (.bool ((code_uses a.op).2.2.1))) rfl) (wl_ok (r_assign (v := (.bool ((code_uses a.op).2.2.2))) rfl) (wl_nil (then_normal (wc_seq (wc_seq (wc_region (wl_ok (r_move (v := (.bool ((code_uses a.op).2.2.2))) rfl) (wl_ok (r_notb rfl) (wl_nil (then_normal (wc_ifb hs rfl (fun c4 hs => ?_) (fun c4 hs => ?_)))))))))))))))))))
 ·
  refine wc_seq (wc_region (wl_ok (r_assign (v := (.int .i64 (4))) rfl) (wl_nil (then_normal (wc_ret (then_ret (fin1 (v := (.int .i64 (4))) Tryz.results86 rfl ?_)))))))
  obtain rfl := Option.some.inj hs
  exact ⟨h.grown, rfl⟩
 ·
  refine wc_skip (then_normal (wc_seq (wc_region (wl_ok (r_makeFunc (c1 := []) (c2 := [(.pointer (some ⟨b2, 0, none⟩))]) rfl rfl) (wl_ok (r_assign (v := (.func (.func 116) #[] #[(.pointer (some ⟨b2, 0, none⟩))])) rfl) (wl_nil (then_normal (wc_seq (wc_seq (wc_region (wl_ok (r_move (v := (.func (.func 116) #[] #[(.pointer (some ⟨b2, 0, none⟩))])) rfl) (wl_ok (r_move (v := (.bool ((code_uses a.op).1))) rfl) (wl_ok (r_fieldAddr Fld93x1 rfl) (wl_ok (r_ldB h 3 rfl One3 rfl rfl) (w_callIn (args := [(.bool ((code_uses a.op).1)), (.int .i64 (a.a)), (.pointer (some ⟨b2, 0, none⟩))]) fnOk116 rfl rfl (calls_start (args := [(.bool ((code_uses a.op).1)), (.int .i64 (a.a)), (.pointer (some ⟨b2, 0, none⟩))]) Tryz.func116 rfl Tryz.ntmps116 (Nat.le_of_ble_eq_true rfl) (wc_seq (wc_region (wl_ok (r_assign (v := (.bool (false))) rfl) (wl_nil (then_normal (wc_seq (wc_region ?_)))))))))))))))))))))))
  refine wl_ok (r_move (v := (.bool ((code_uses a.op).1))) rfl) (wl_ok (r_notb rfl) (wl_ok (r_move (v := (.bool ((!(code_uses a.op).1)))) rfl) (wl_gd0 rfl rfl (fun q => r_move (v := (.int .i64 (a.a))) rfl) (wl_gd0 rfl rfl (fun q => r_geq (gvt q) rfl) (wl_gd0 rfl rfl (fun q => r_move (v := (.bool (decide ((0 : Int) ≤ a.a)))) (gvt q)) (wl_gd ((!(code_uses a.op).1) == false) rfl rfl (fun q => r_move (v := (.int .i64 (a.a))) rfl) (wl_gd ((!(code_uses a.op).1) == false) rfl rfl (fun q => r_ldB h 4 rfl One3 rfl rfl) (wl_gd ((!(code_uses a.op).1) == false) rfl rfl (fun q => r_lss (gvt q) (gvt q)) (wl_gd0 rfl rfl (fun q => r_pand (gvt q) (gvn q) evc) (wl_ok (r_por rfl rfl evc) (wl_ok (r_assign (v := (.bool (((!(code_uses a.op).1) || (decide ((0 : Int) ≤ a.a) && decide ((a.a : Int) < d)))))) rfl) (wl_nil (then_normal (wc_ret (fin1 (v := (.bool (((!(code_uses a.op).1) || (decide ((0 : Int) ≤ a.a) && decide ((a.a : Int) < d)))))) Tryz.results116 rfl (⟨_, rfl, ?_⟩))))))))))))))))
  refine wl_ok (r_notb rfl) (wl_ok (r_move (v := (.bool ((!((!(code_uses a.op).1) || (decide ((0 : Int) ≤ a.a) && decide ((a.a : Int) < d))))))) rfl) (wl_gd0 rfl rfl (fun q => r_move (v := (.func (.func 116) #[] #[(.pointer (some ⟨b2, 0, none⟩))])) rfl) (wl_gd0 rfl rfl (fun q => r_move (v := (.bool ((code_uses a.op).2.1))) rfl) (wl_gd0 rfl rfl (fun q => r_fieldAddr Fld93x2 rfl) (wl_gd0 rfl rfl (fun q => r_ldB h 3 rfl One3 (gvt q) rfl) (w_callH0 [(.pointer (some ⟨b2, 0, none⟩))] rfl rfl fnOk116 (fun q => (gvt q)) (fun q => la_cons (gvt q) (la_cons (gvt q) rfl)) (code_check_1__c _ _ h.lt ((code_uses a.op).2.1) a.b d b2 (h.blkAt 4 rfl) _ rfl) fun w k5 => ?_))))))
  replace h := h.grow k5
  refine wl_gd0 rfl rfl (fun q => r_notb (gvt q)) (wl_ok (r_por rfl rfl evc) (wl_ok (r_move (v := (.bool (((!((!(code_uses a.op).1) || (decide ((0 : Int) ≤ a.a) && decide ((a.a : Int) < d)))) || (!(code_check_1_ ((code_uses a.op).2.1) a.b d)))))) rfl) (wl_gd0 rfl rfl (fun q => r_move (v := (.func (.func 116) #[] #[(.pointer (some ⟨b2, 0, none⟩))])) rfl) (wl_gd0 rfl rfl (fun q => r_move (v := (.bool ((code_uses a.op).2.2.1))) rfl) (wl_gd0 rfl rfl (fun q => r_fieldAddr Fld93x3 rfl) (wl_gd0 rfl rfl (fun q => r_ldB h 3 rfl One3 (gvt q) rfl) (w_callH0 [(.pointer (some ⟨b2, 0, none⟩))] rfl rfl fnOk116 (fun q => (gvt q)) (fun q => la_cons (gvt q) (la_cons (gvt q) rfl)) (code_check_1__c _ _ h.lt ((code_uses a.op).2.2.1) a.c d b2 (h.blkAt 4 rfl) _ rfl) fun w k6 => ?_)))))))
  replace h := h.grow k6
  refine wl_gd0 rfl rfl (fun q => r_notb (gvt q)) (wl_ok (r_por rfl rfl evc) (wl_nil (then_normal (wc_ifb hs rfl (fun c7 hs => ?_) (fun c7 hs => ?_)))))
  ·
   refine wc_seq (wc_region (wl_ok (r_assign (v := (.int .i64 (3))) rfl) (wl_nil (then_normal (wc_ret (then_ret (fin1 (v := (.int .i64 (3))) Tryz.results86 rfl ?_)))))))
   obtain rfl := Option.some.inj hs
   exact ⟨h.grown, rfl⟩
  ·
   refine wc_skip (then_normal (wc_seq (wc_region (wl_ok (r_fieldAddr Fld93x3 rfl) (wl_ok (r_ldB h 3 rfl One3 rfl rfl) (wl_ok (r_geq rfl rfl) (wl_ok (r_move (v := (.bool (decide ((0 : Int) ≤ a.c)))) rfl) (wl_gd0 rfl rfl (fun q => r_fieldAddr Fld93x3 rfl) (wl_gd0 rfl rfl (fun q => r_ldB h 3 rfl One3 (gvt q) rfl) (wl_gd0 rfl rfl (fun q => r_lss (gvt q) rfl) (wl_ok (r_pand rfl rfl evc) (wl_ok (r_assign (v := (.bool ((decide ((0 : Int) ≤ a.c) && decide ((a.c : Int) < 4))))) rfl) (wl_nil (then_normal (wc_seq (wc_region (wl_ok (r_assign (v := (.int .i64 (0))) rfl) (wl_nil (then_normal (wc_seq (wc_region (wl_ok (r_fieldAddr Fld93x0 rfl) (wl_ok (r_ldB h 3 rfl One3 rfl rfl) ?_)))))))))))))))))))))))
   refine wl_ok (r_fieldAddr Fld93x1 rfl) (wl_ok (r_ldB h 3 rfl One3 rfl rfl) (wl_ok (r_fieldAddr Fld93x2 rfl) (wl_ok (r_ldB h 3 rfl One3 rfl rfl) (wl_ok (r_build (pv := [(0, (.int .i64 (a.op))), (1, (.int .i64 (a.a))), (2, (.int .i64 (a.b)))]) (out := [(.int .i64 (a.op)), (.int .i64 (a.a)), (.int .i64 (a.b)), (.int .i64 (0)), (.slice none 0 0)]) Struct93 rfl ⟨0, 1, [(.int .i64 (a.op))], rfl, rfl, rfl, Nat.le_of_ble_eq_true rfl, ⟨1, 1, [(.int .i64 (a.a))], rfl, rfl, rfl, Nat.le_of_ble_eq_true rfl, ⟨2, 1, [(.int .i64 (a.b))], rfl, rfl, rfl, Nat.le_of_ble_eq_true rfl, rfl⟩⟩⟩) (w_allocN h 5 Many93 fun w b8 h => w_stN (vs := [(.int .i64 (a.op)), (.int .i64 (a.a)), (.int .i64 (a.b)), (.int .i64 (0)), (.slice none 0 0)]) h 5 [(.int .i64 (a.op)), (.int .i64 (a.a)), (.int .i64 (a.b)), (.int .i64 (0)), (.slice none 0 0)] rfl Many93 rfl rfl rfl rfl rfl (ones_cons rfl (ones_cons rfl (ones_cons rfl (ones_cons rfl (ones_cons rfl ones_nil))))) fun w h => wl_nil (then_normal (wc_join (σ := Bool × Int × Int × Int × Int) (inl [10, 14, 17, 69, 70, 71, 72, 73, 74, 75, 76, 77, 78, 79, 80, 81, 82, 83, 84, 85, 86, 87, 88, 89, 90, 91, 92, 93, 94, 95, 96, 97, 98, 99, 100, 101, 102, 103, 104, 105, 106, 107, 108, 109, 110, 111, 112, 113, 114, 115, 116, 117, 118, 119, 120, 121, 122, 123, 124, 125, 126, 127, 128, 129, 130, 131, 132, 133, 134, 135, 136, 137, 138, 139, 140, 141, 142, 143, 144, 145, 146, 147, 148, 149, 150, 151, 152, 153, 154, 155, 156, 157, 158, 159]) (fun ⟨x9, x10, y11, y12, y13⟩ => [(14, (.bool (x9))), (17, (.int .i64 (x10)))]) (fun ⟨x9, x10, y11, y12, y13⟩ w => SH w0 M BE w (hset [(1, .sr rInt va4 a.args), (3, .blk b1 [(.int .i64 (a.op)), (.int .i64 (a.a)), (.int .i64 (a.b)), (.int .i64 (a.c)), va4]), (4, .blk b2 [(.int .i64 (d))]), (5, .blk b8 [(.int .i64 (a.op)), (.int .i64 (y11)), (.int .i64 (y12)), (.int .i64 (y13)), (.slice none 0 0)])]) ∧ code_check_j4 a b c d x9 x10 y11 y12 y13 = some r) ?_ ?_)))))))
   ·
    rintro ⟨x9, x10, y11, y12, y13⟩ w junk ⟨h, hs⟩
    refine wc_join (σ := Int) (inl [160, 161, 162, 163]) (fun y14 => []) (fun y14 w => SH w0 M BE w (hset [(1, .sr rInt va4 a.args), (3, .blk b1 [(.int .i64 (a.op)), (.int .i64 (a.a)), (.int .i64 (a.b)), (.int .i64 (a.c)), va4]), (4, .blk b2 [(.int .i64 (d))]), (5, .blk b8 [(.int .i64 (a.op)), (.int .i64 (y14)), (.int .i64 (y12)), (.int .i64 (y13)), (.slice none 0 0)])]) ∧ code_check_j5 x9 a b y12 c y13 x10 d y14 = some r) ?_ ?_
    ·
     rintro y14 w junk ⟨h, hs⟩
     refine wc_seq (wc_seq (wc_region (wl_ok (r_move (v := (.bool (x9))) rfl) (wl_ok (r_notb rfl) (wl_nil (then_normal (wc_ifb hs rfl (fun c15 hs => ?_) (fun c15 hs => ?_))))))))
     ·
      refine wc_seq (wc_region (wl_ok (r_assign (v := (.int .i64 (3))) rfl) (wl_nil (then_normal (wc_ret (then_ret (fin1 (v := (.int .i64 (3))) Tryz.results86 rfl ?_)))))))
      obtain rfl := Option.some.inj hs
      exact ⟨h.grown, rfl⟩
     ·
      refine wc_skip (then_normal (wc_seq (wc_seq (wc_region (wl_ok (r_fieldAddr Fld93x1 rfl) (wl_ok (r_ldB h 3 rfl One3 rfl rfl) (wl_ok (r_fieldAddr Fld93x1 rfl) (wl_ok (r_ldB h 5 rfl One3 rfl rfl) (wl_ok (r_neq rfl rfl) (wl_ok (r_move (v := (.bool (decide ((a.a : Int) ≠ y14)))) rfl) (wl_gd0 rfl rfl (fun q => r_fieldAddr Fld93x2 rfl) (wl_gd0 rfl rfl (fun q => r_ldB h 3 rfl One3 (gvt q) rfl) (wl_gd0 rfl rfl (fun q => r_fieldAddr Fld93x2 rfl) (wl_gd0 rfl rfl (fun q => r_ldB h 5 rfl One3 (gvt q) rfl) (wl_gd0 rfl rfl (fun q => r_neq (gvt q) (gvt q)) (wl_ok (r_por rfl rfl evc) (wl_ok (r_move (v := (.bool ((decide ((a.a : Int) ≠ y14) || decide ((a.b : Int) ≠ y12))))) rfl) (wl_gd0 rfl rfl (fun q => r_fieldAddr Fld93x3 rfl) (wl_gd0 rfl rfl (fun q => r_ldB h 3 rfl One3 (gvt q) rfl) (wl_gd0 rfl rfl (fun q => r_fieldAddr Fld93x3 rfl) (wl_gd0 rfl rfl (fun q => r_ldB h 5 rfl One3 (gvt q) rfl) (wl_gd0 rfl rfl (fun q => r_neq (gvt q) (gvt q)) (wl_ok (r_por rfl rfl evc) ?_)))))))))))))))))))))))
      refine wl_ok (r_move (v := (.bool (((decide ((a.a : Int) ≠ y14) || decide ((a.b : Int) ≠ y12)) || decide ((a.c : Int) ≠ y13))))) rfl) (wl_gd0 rfl rfl (fun q => r_fieldAddr Fld93x4 rfl) (wl_gd0 rfl rfl (fun q => r_ldB h 3 rfl One27 (gvt q) rfl) (wl_gd0 rfl rfl (fun q => r_len SliceOf27 (gvt q) (h.srS 1 rfl)) (wl_gd0 rfl rfl (fun q => r_move (v := (.int .i64 (x10))) rfl) (wl_gd0 rfl rfl (fun q => r_neq (gvt q) (gvt q)) (wl_ok (r_por rfl rfl evc) (wl_nil (then_normal (wc_ifb hs rfl (fun c16 hs => ?_) (fun c16 hs => ?_))))))))))
      ·
       refine wc_seq (wc_region (wl_ok (r_assign (v := (.int .i64 (4))) rfl) (wl_nil (then_normal (wc_ret (then_ret (fin1 (v := (.int .i64 (4))) Tryz.results86 rfl ?_)))))))
       obtain rfl := Option.some.inj hs
       exact ⟨h.grown, rfl⟩
      ·
       refine wc_skip (then_normal (wc_seq (wc_seq (wc_region (wl_ok (r_fieldAddr Fld93x0 rfl) (wl_ok (r_ldB h 3 rfl One3 rfl rfl) (wl_ok (r_eql rfl rfl) (wl_nil (then_normal (wc_ifb hs rfl (fun c17 hs => ?_) (fun c17 hs => ?_)))))))))))
       ·
        refine wc_seq (wc_region (wl_ok (r_fieldAddr Fld93x4 rfl) (wl_ok (r_ldB h 3 rfl One27 rfl rfl) (wl_ok (r_len SliceOf27 rfl (h.srS 1 rfl)) (wl_ok (r_move (v := (.int .i64 (0))) rfl) (wl_nil (then_normal (wc_block (wc_lp (σ := Nat × Int) (inl [10, 20, 198, 199, 200, 201, 202, 203, 204, 205, 206]) (fun ⟨k18, i19⟩ => [(198, (.int .i64 (i19)))]) (fun ⟨k18, i19⟩ w => SH w0 M BE w (hset [(1, .sr rInt va4 a.args), (4, .blk b2 [(.int .i64 (d))])]) ∧ i19 = (k18 : Int) ∧ each (code_check_b8 d) code_check_k9 (a.args.drop k18) () = some r) (fun ⟨k18, i19⟩ => a.args.length - k18) ⟨0, 0⟩ ⟨rfl, trivial⟩ ?_ ?_)))))))))
        ·
         exact ⟨h.cn _, rfl, hs⟩
        ·
         rintro ⟨k18, i19⟩ w junk ⟨h, hik, hs⟩
         refine wc_seq (wc_region ?_)
         refine wl_ok (r_lss rfl rfl) (wl_nil (then_normal ?_))
         refine wc_seq (wc_if rfl (fun e23 => ?_) (fun e23 => ?_))
         ·
          refine wc_skip (then_normal ?_)
          obtain ⟨x20, e24a, e24b⟩ := drop_lt (hik ▸ e23)
          rw [e24b, each_cons] at hs
          generalize hnx22 : each (code_check_b8 d) code_check_k9 (a.args.drop (k18 + 1)) = nx22 at hs
          have e24r := nat_rng ((h.srS 1 rfl)).len_le hik e23
          refine wc_seq (wc_block (wc_seq (wc_region ?_)))
          obtain ⟨b26, o27, cs28, h, r29, i25⟩ := h.ixS 1 6 rfl SliceOf27 rfl (nat_nn hik) (get_nat hik e24a)
          obtain rfl := r29
          refine wl_ok (i25 _ _ _ _ _ _ _ _ _ rfl rfl) (wl_ok (r_ldP (k := 0) h 6 rfl One3 rfl rfl) (wl_ok (r_assign (v := (.int .i64 (x20))) rfl) (wl_nil (then_normal (wc_seq (wc_region (wl_ok (r_move (v := (.func (.func 116) #[] #[(.pointer (some ⟨b2, 0, none⟩))])) rfl) (wl_ok (r_move (v := (.int .i64 (x20))) rfl) (w_callIn (args := [(.bool (true)), (.int .i64 (x20)), (.pointer (some ⟨b2, 0, none⟩))]) fnOk116 rfl rfl (calls_start (args := [(.bool (true)), (.int .i64 (x20)), (.pointer (some ⟨b2, 0, none⟩))]) Tryz.func116 rfl Tryz.ntmps116 (Nat.le_of_ble_eq_true rfl) (wc_seq (wc_region (wl_ok (r_assign (v := (.bool (false))) rfl) (wl_nil (then_normal (wc_seq (wc_region (wl_ok (r_move (v := (.bool (true))) rfl) (wl_ok (r_notb rfl) (wl_ok (r_move (v := (.bool (false))) rfl) (wl_on rfl rfl (wl_ok (r_move (v := (.int .i64 (x20))) rfl) (wl_on rfl rfl ?_)))))))))))))))))))))))
          refine wl_ok (r_geq rfl rfl) (wl_on rfl rfl (wl_ok (r_move (v := (.bool (decide ((0 : Int) ≤ x20)))) rfl) (wl_gd0 rfl rfl (fun q => r_move (v := (.int .i64 (x20))) rfl) (wl_gd0 rfl rfl (fun q => r_ldB h 4 rfl One3 rfl rfl) (wl_gd0 rfl rfl (fun q => r_lss (gvt q) (gvt q)) (wl_on rfl rfl (wl_ok (r_pand rfl rfl evc) (wl_ok (r_pick (b := false) (v := (.bool ((decide ((0 : Int) ≤ x20) && decide ((x20 : Int) < d))))) rfl rfl) (wl_ok (r_assign (v := (.bool ((decide ((0 : Int) ≤ x20) && decide ((x20 : Int) < d))))) rfl) (wl_nil (then_normal (wc_ret (fin1 (v := (.bool ((decide ((0 : Int) ≤ x20) && decide ((x20 : Int) < d))))) Tryz.results116 rfl (⟨_, rfl, ?_⟩))))))))))))))
          refine wl_ok (r_notb rfl) (wl_nil (then_normal (wc_ifb hs rfl (fun c30 hs => ?_) (fun c30 hs => ?_))))
          ·
           refine wc_seq (wc_region (wl_ok (r_assign (v := (.int .i64 (3))) rfl) (wl_nil (then_normal (wc_ret (inBlock_ret (then_ret (then_ret (inBlock_ret (then_ret (fin1 (v := (.int .i64 (3))) Tryz.results86 rfl ?_)))))))))))
           obtain rfl := Option.some.inj hs
           exact ⟨h.grown, rfl⟩
          ·
           refine wc_skip (inBlock_normal (then_normal (wc_region (wl_ok (r_add rfl rfl e24r) (wl_ok (r_move (v := (.int .i64 ((i19 + 1)))) rfl) (wl_nil (then_loop ?_)))))))
           subst hnx22
           exact lend ⟨k18 + 1, i19 + 1⟩ ⟨h.cn _, by omega, hs⟩ (by have := of_decide_eq_true e23; dsimp only; omega)
         ·
          rw [drop_ge (hik ▸ e23), each_nil] at hs
          refine wc_exit (then_exit (then_exit (inBlock_eq (then_normal (wc_seq (wc_region (wl_ok (r_assign (v := (.int .i64 (0))) rfl) (wl_nil (then_normal (wc_ret (fin1 (v := (.int .i64 (0))) Tryz.results86 rfl ?_)))))))))))
          obtain rfl := Option.some.inj hs
          exact ⟨h.grown, rfl⟩
       ·
        refine wc_skip (then_normal (wc_seq (wc_region (wl_ok (r_assign (v := (.int .i64 (0))) rfl) (wl_nil (then_normal (wc_ret (fin1 (v := (.int .i64 (0))) Tryz.results86 rfl ?_))))))))
        obtain rfl := Option.some.inj hs
        exact ⟨h.grown, rfl⟩
    ·
     refine wc_seq (wc_region (wl_ok (r_fieldAddr Fld93x0 rfl) (wl_ok (r_ldB h 3 rfl One3 rfl rfl) (wl_ok (r_eql rfl rfl) (wl_nil (then_normal (wc_ifb hs rfl (fun c31 hs => ?_) (fun c31 hs => ?_))))))))
     ·
      refine wc_region (wl_ok (r_fieldAddr Fld93x1 rfl) (w_st1 h 5 [(.int .i64 (a.op)), (.int .i64 (0)), (.int .i64 (y12)), (.int .i64 (y13)), (.slice none 0 0)] rfl One3 rfl rfl rfl rfl rfl fun w h => wl_nil (then_loop ?_)))
      exact jend 0 ⟨h.cn _, hs⟩
     ·
      refine wc_skip (then_loop ?_)
      exact jend y11 ⟨h.cn _, hs⟩
   ·
    refine wc_seq (wc_region (wl_ok (r_fieldAddr Fld93x0 rfl) (wl_ok (r_ldB h 3 rfl One3 rfl rfl) (wl_nil (then_normal (wc_block (wc_seq (wc_region (wl_ok (r_eql rfl rfl) (wl_ok (r_assign (v := (.bool (decide ((a.op : Int) = 1)))) rfl) (wl_nil (then_normal (wc_ifb hs rfl (fun c32 hs => ?_) (fun c32 hs => ?_))))))))))))))
    ·
     refine wc_region (wl_ok (r_fieldAddr Fld93x2 rfl) (wl_ok (r_ldB h 3 rfl One3 rfl rfl) (wl_ok (r_geq rfl rfl) (wl_ok (r_move (v := (.bool (decide ((-1000000000 : Int) ≤ a.b)))) rfl) (wl_gd0 rfl rfl (fun q => r_fieldAddr Fld93x2 rfl) (wl_gd0 rfl rfl (fun q => r_ldB h 3 rfl One3 (gvt q) rfl) (wl_gd0 rfl rfl (fun q => r_leq (gvt q) rfl) (wl_ok (r_pand rfl rfl evc) (wl_ok (r_assign (v := (.bool ((decide ((-1000000000 : Int) ≤ a.b) && decide ((a.b : Int) ≤ 1000000000))))) rfl) (wl_nil (inBlock_normal (then_loop ?_))))))))))))
     exact jend ((decide ((-1000000000 : Int) ≤ a.b) && decide ((a.b : Int) ≤ 1000000000)), 0, a.a, a.b, 0) ⟨h.cn _, hs⟩
    ·
     refine wc_seq (wc_region (wl_ok (r_eql rfl rfl) (wl_ok (r_assign (v := (.bool (decide ((a.op : Int) = 5)))) rfl) (wl_nil (then_normal (wc_ifb hs rfl (fun c33 hs => ?_) (fun c33 hs => ?_)))))))
     ·
      refine wc_region (wl_ok (r_fieldAddr Fld93x2 rfl) (wl_ok (r_ldB h 3 rfl One3 rfl rfl) (wl_ok (r_geq rfl rfl) (wl_ok (r_move (v := (.bool (decide ((1 : Int) ≤ a.b)))) rfl) (wl_gd0 rfl rfl (fun q => r_fieldAddr Fld93x2 rfl) (wl_gd0 rfl rfl (fun q => r_ldB h 3 rfl One3 (gvt q) rfl) (wl_gd0 rfl rfl (fun q => r_leq (gvt q) rfl) (wl_ok (r_pand rfl rfl evc) (wl_ok (r_assign (v := (.bool ((decide ((1 : Int) ≤ a.b) && decide ((a.b : Int) ≤ 4))))) rfl) (wl_nil (inBlock_normal (then_loop ?_))))))))))))
      exact jend ((decide ((1 : Int) ≤ a.b) && decide ((a.b : Int) ≤ 4)), 0, a.a, a.b, 0) ⟨h.cn _, hs⟩
     ·
      refine wc_join (σ := Bool) (inl [91, 92, 93]) (fun x34 => [(91, (.bool (x34)))]) (fun x34 w => SH w0 M BE w (hset [(1, .sr rInt va4 a.args), (2, .sr rProc vc c), (3, .blk b1 [(.int .i64 (a.op)), (.int .i64 (a.a)), (.int .i64 (a.b)), (.int .i64 (a.c)), va4]), (4, .blk b2 [(.int .i64 (d))]), (5, .blk b8 [(.int .i64 (a.op)), (.int .i64 (a.a)), (.int .i64 (a.b)), (.int .i64 (0)), (.slice none 0 0)])]) ∧ code_check_j10 a b c d e x34 = some r) ?_ ?_
      ·
       rintro x34 w junk ⟨h, hs⟩
       refine wc_ifb hs rfl (fun c35 hs => ?_) (fun c35 hs => ?_)
       ·
        refine wc_tail 5 mixed (by kernel_rfl) h fun w h => wk_ok (r_move (v := (.bool ((decide ((0 : Int) ≤ a.c) && decide ((a.c : Int) < 4))))) rfl) (wk_ok (r_fieldAddr Fld93x3 rfl) (wk_ok (r_ldB h 3 rfl One3 rfl rfl) (wk_ok (r_assign (v := (.bool ((decide ((0 : Int) ≤ a.c) && decide ((a.c : Int) < 4))))) rfl) (wk_ok (r_fieldAddr Fld93x3 rfl) (wk_go (w_st1 h 5 [(.int .i64 (a.op)), (.int .i64 (a.a)), (.int .i64 (a.b)), (.int .i64 (a.c)), (.slice none 0 0)] rfl One3 rfl rfl rfl rfl rfl fun w h => wl_nil (inBlock_normal (then_loop ?_))))))))
        exact jend ((decide ((0 : Int) ≤ a.c) && decide ((a.c : Int) < 4)), 0, a.a, a.b, a.c) ⟨h.cn _, hs⟩
       ·
        refine wc_seq (wc_region (wl_ok (r_eql rfl rfl) (wl_ok (r_assign (v := (.bool (decide ((a.op : Int) = 3)))) rfl) (wl_nil (then_normal (wc_ifb hs rfl (fun c36 hs => ?_) (fun c36 hs => ?_)))))))
        ·
         refine wc_seq (wc_tail 4 mixed (by kernel_rfl) h fun w h => wk_ok (r_fieldAddr Fld93x3 rfl) (wk_ok (r_ldB h 3 rfl One3 rfl rfl) (wk_ok (r_assign (v := (.int .i64 (1))) rfl) (wk_ok (r_fieldAddr Fld93x3 rfl) (wk_go (w_st1 h 5 [(.int .i64 (a.op)), (.int .i64 (a.a)), (.int .i64 (a.b)), (.int .i64 (a.c)), (.slice none 0 0)] rfl One3 rfl rfl rfl rfl rfl fun w h => wl_nil (then_normal (wc_region (wl_ok (r_fieldAddr Fld93x4 rfl) (wl_ok (r_ldB h 3 rfl One27 rfl rfl) (wl_ok (r_len SliceOf27 rfl (h.srS 1 rfl)) (wl_ok (r_eql rfl rfl) (wl_ok (r_move (v := (.bool (decide (((a.args.length : Int) : Int) = 1)))) rfl) (c_split (b := decide (((a.args.length : Int) : Int) = 1)) hs (fun c37 hs => ?_) (fun c37 hs => ?_)))))))))))))))
         ·
          refine wl_on rfl (congrArg Value.bool c37) (wl_ok (r_fieldAddr Fld93x4 rfl) (wl_on rfl (congrArg Value.bool c37) (wl_ok (r_ldB h 3 rfl One27 rfl rfl) (wl_on rfl (congrArg Value.bool c37) ?_))))
          obtain ⟨x38, e39, hs⟩ := o_bind hs
          obtain ⟨b41, o42, cs43, h, r44, i40⟩ := h.ixS 1 7 rfl SliceOf27 rfl (o_idx e39).1 (o_idx e39).2
          obtain rfl := r44
          refine wl_ok (i40 _ _ _ _ _ _ _ _ _ rfl rfl) (wl_on rfl (congrArg Value.bool c37) (wl_ok (r_ldP (k := 0) h 7 rfl One3 rfl rfl) (wl_on rfl (congrArg Value.bool c37) (wl_ok (r_geq rfl rfl) (wl_ok (r_pick (b := true) (v := (.bool (decide ((1 : Int) ≤ x38)))) (congrArg Value.bool c37) rfl) (wl_ok (r_move (v := (.bool (decide ((1 : Int) ≤ x38)))) rfl) (wl_gd0 rfl rfl (fun q => r_fieldAddr Fld93x4 rfl) (wl_gd0 rfl rfl (fun q => r_ldB h 3 rfl One27 (gvt q) rfl) ?_))))))))
          obtain ⟨b46, o47, cs48, h, r49, i45⟩ := h.ixS 1 8 rfl SliceOf27 rfl (o_idx e39).1 (o_idx e39).2
          obtain rfl := r49
          refine wl_gd0 rfl rfl (fun q => i45 _ _ _ _ _ _ _ _ _ (gvt q) rfl) (wl_gd0 rfl rfl (fun q => r_ldP (k := 0) h 8 rfl One3 (gvt q) rfl) (wl_gd0 rfl rfl (fun q => r_leq (gvt q) rfl) (wl_ok (r_pand rfl rfl evc) (wl_ok (r_assign (v := (.bool ((decide ((1 : Int) ≤ x38) && decide ((x38 : Int) ≤ 5))))) rfl) (wl_nil (inBlock_normal (then_loop ?_)))))))
          exact jend ((decide ((1 : Int) ≤ x38) && decide ((x38 : Int) ≤ 5)), 1, a.a, a.b, a.c) ⟨h.cn _, hs⟩
         ·
          refine wl_off (b' := false) rfl (congrArg Value.bool c37) rfl (wl_off (b' := false) rfl (congrArg Value.bool c37) rfl (wl_off (b' := false) rfl (congrArg Value.bool c37) rfl (wl_off (b' := false) rfl (congrArg Value.bool c37) rfl (wl_off (b' := false) rfl (congrArg Value.bool c37) rfl (wl_ok (r_pick (b := false) (v := (.bool (false))) (congrArg Value.bool c37) rfl) (wl_ok (r_move (v := (.bool (false))) rfl) (wl_off (b' := false) rfl rfl rfl (wl_off (b' := false) rfl rfl rfl (wl_off (b' := false) rfl rfl rfl (wl_off (b' := false) rfl rfl rfl (wl_off (b' := false) rfl rfl rfl (wl_ok (r_pick (b := false) (v := (.bool (false))) rfl rfl) (wl_ok (r_assign (v := (.bool (false))) rfl) (wl_nil (inBlock_normal (then_loop ?_))))))))))))))))
          exact jend (false, 1, a.a, a.b, a.c) ⟨h.cn _, hs⟩
        ·
         refine wc_join (σ := Bool) (inl [121, 122, 123]) (fun x50 => [(121, (.bool (x50)))]) (fun x50 w => SH w0 M BE w (hset [(1, .sr rInt va4 a.args), (2, .sr rProc vc c), (3, .blk b1 [(.int .i64 (a.op)), (.int .i64 (a.a)), (.int .i64 (a.b)), (.int .i64 (a.c)), va4]), (4, .blk b2 [(.int .i64 (d))]), (5, .blk b8 [(.int .i64 (a.op)), (.int .i64 (a.a)), (.int .i64 (a.b)), (.int .i64 (0)), (.slice none 0 0)])]) ∧ code_check_j11 a b c d e x50 = some r) ?_ ?_
         ·
          rintro x50 w junk ⟨h, hs⟩
          refine wc_ifb hs rfl (fun c51 hs => ?_) (fun c51 hs => ?_)
          ·
           refine wc_region (wl_ok (r_fieldAddr Fld93x2 rfl) (wl_ok (r_ldB h 3 rfl One3 rfl rfl) (wl_ok (r_geq rfl rfl) (wl_ok (r_move (v := (.bool (decide ((0 : Int) ≤ a.b)))) rfl) (wl_gd0 rfl rfl (fun q => r_fieldAddr Fld93x2 rfl) (wl_gd0 rfl rfl (fun q => r_ldB h 3 rfl One3 (gvt q) rfl) (wl_gd0 rfl rfl (fun q => r_move (v := (.int .i64 (e))) rfl) (wl_gd0 rfl rfl (fun q => r_lss (gvt q) (gvt q)) (wl_ok (r_pand rfl rfl evc) (wl_ok (r_assign (v := (.bool ((decide ((0 : Int) ≤ a.b) && decide ((a.b : Int) < e))))) rfl) (wl_nil (inBlock_normal (then_loop ?_)))))))))))))
           exact jend ((decide ((0 : Int) ≤ a.b) && decide ((a.b : Int) < e)), 0, a.a, a.b, 0) ⟨h.cn _, hs⟩
          ·
           refine wc_seq (wc_region (wl_ok (r_eql rfl rfl) (wl_ok (r_assign (v := (.bool (decide ((a.op : Int) = 7)))) rfl) (wl_nil (then_normal (wc_ifb hs rfl (fun c52 hs => ?_) (fun c52 hs => ?_)))))))
           ·
            refine wc_seq (wc_seq (wc_region (wl_ok (r_fieldAddr Fld93x2 rfl) (wl_ok (r_ldB h 3 rfl One3 rfl rfl) (wl_ok (r_lss rfl rfl) (wl_ok (r_move (v := (.bool (decide ((a.b : Int) < 0)))) rfl) (wl_gd0 rfl rfl (fun q => r_fieldAddr Fld93x2 rfl) (wl_gd0 rfl rfl (fun q => r_ldB h 3 rfl One3 (gvt q) rfl) (wl_gd0 rfl rfl (fun q => r_move (v := vc) rfl) (wl_gd0 rfl rfl (fun q => r_len SliceOf22 (gvt q) (h.srS 2 rfl)) (wl_gd0 rfl rfl (fun q => r_geq (gvt q) (gvt q)) (wl_ok (r_por rfl rfl evc) (wl_nil (then_normal (wc_ifb hs rfl (fun c53 hs => ?_) (fun c53 hs => ?_))))))))))))))))
            ·
             refine wc_seq (wc_region (wl_ok (r_assign (v := (.int .i64 (5))) rfl) (wl_nil (then_normal (wc_ret (then_ret (inBlock_ret (then_ret (fin1 (v := (.int .i64 (5))) Tryz.results86 rfl ?_)))))))))
             obtain rfl := Option.some.inj hs
             exact ⟨h.grown, rfl⟩
            ·
             refine wc_skip (then_normal (wc_region (wl_ok (r_move (v := vc) rfl) (wl_ok (r_fieldAddr Fld93x2 rfl) (wl_ok (r_ldB h 3 rfl One3 rfl rfl) ?_)))))
             obtain ⟨x54, e55, hs⟩ := o_bind hs
             obtain ⟨b57, o58, cs59, h, r60, i56⟩ := h.ixS 2 9 rfl SliceOf22 rfl (o_idx e55).1 (o_idx e55).2
             obtain ⟨u61, rfl, g62⟩ := rProc_open r60
             replace h := h.knowRd 10 g62.up
             refine wl_ok (i56 _ _ _ _ _ _ _ _ _ rfl rfl) (wl_ok (r_fieldAddr Fld57x0 rfl) (wl_ok (r_ldP (k := 0) h 9 rfl One3 rfl rfl) (wl_ok (r_assign (v := (.int .i64 (x54.params))) rfl) (wl_nil (inBlock_normal (then_loop ?_))))))
             exact jend ((code_uses a.op).2.2.2, x54.params, a.a, a.b, 0) ⟨h.cn _, hs⟩
           ·
            refine wc_join (σ := Bool) (inl [151, 152, 153, 154]) (fun x63 => [(151, (.bool (x63)))]) (fun x63 w => SH w0 M BE w (hset [(1, .sr rInt va4 a.args), (3, .blk b1 [(.int .i64 (a.op)), (.int .i64 (a.a)), (.int .i64 (a.b)), (.int .i64 (a.c)), va4]), (4, .blk b2 [(.int .i64 (d))]), (5, .blk b8 [(.int .i64 (a.op)), (.int .i64 (a.a)), (.int .i64 (a.b)), (.int .i64 (0)), (.slice none 0 0)])]) ∧ code_check_j12 a b c d x63 = some r) ?_ ?_
            ·
             rintro x63 w junk ⟨h, hs⟩
             refine wc_ifb hs rfl (fun c64 hs => ?_) (fun c64 hs => ?_)
             ·
              refine wc_region (wl_ok (r_fieldAddr Fld93x2 rfl) (w_st1 h 5 [(.int .i64 (a.op)), (.int .i64 (a.a)), (.int .i64 (0)), (.int .i64 (0)), (.slice none 0 0)] rfl One3 rfl rfl rfl rfl rfl fun w h => wl_nil (inBlock_normal (then_loop ?_))))
              exact jend ((code_uses a.op).2.2.2, 0, a.a, 0, 0) ⟨h.cn _, hs⟩
             ·
              refine wc_seq (wc_region (wl_ok (r_eql rfl rfl) (wl_ok (r_assign (v := (.bool (decide ((a.op : Int) = 10)))) rfl) (wl_nil (then_normal (wc_ifb hs rfl (fun c65 hs => ?_) (fun c65 hs => ?_)))))))
              ·
               refine wc_region (wl_ok (r_fieldAddr Fld93x1 rfl) (w_st1 h 5 [(.int .i64 (a.op)), (.int .i64 (0)), (.int .i64 (a.b)), (.int .i64 (0)), (.slice none 0 0)] rfl One3 rfl rfl rfl rfl rfl fun w h => wl_ok (r_fieldAddr Fld93x2 rfl) (w_st1 h 5 [(.int .i64 (a.op)), (.int .i64 (0)), (.int .i64 (0)), (.int .i64 (0)), (.slice none 0 0)] rfl One3 rfl rfl rfl rfl rfl fun w h => wl_nil (inBlock_normal (then_loop ?_)))))
               exact jend ((code_uses a.op).2.2.2, 0, 0, 0, 0) ⟨h.cn _, hs⟩
              ·
               refine wc_skip (inBlock_normal (then_loop ?_))
               exact jend ((code_uses a.op).2.2.2, 0, a.a, a.b, 0) ⟨h.cn _, hs⟩
            ·
             refine wc_seq (wc_region (wl_ok (r_eql rfl rfl) (wl_ok (r_assign (v := (.bool (decide ((a.op : Int) = 8)))) rfl) (wl_nil (then_normal (wc_ifb hs rfl (fun c66 hs => ?_) (fun c66 hs => ?_)))))))
             ·
              refine wc_skip (then_loop ?_)
              exact jend (decide ((a.op : Int) = 8)) ⟨h.cn _, hs⟩
             ·
              refine wc_seq (wc_region (wl_ok (r_eql rfl rfl) (wl_ok (r_assign (v := (.bool (decide ((a.op : Int) = 9)))) rfl) (wl_nil (then_normal (wc_ifb hs rfl (fun c67 hs => ?_) (fun c67 hs => ?_)))))))
              ·
               refine wc_skip (then_loop ?_)
               exact jend (decide ((a.op : Int) = 9)) ⟨h.cn _, hs⟩
              ·
               refine wc_region (wl_ok (r_eql rfl rfl) (wl_ok (r_assign (v := (.bool (decide ((a.op : Int) = 11)))) rfl) (wl_nil (then_loop ?_))))
               exact jend (decide ((a.op : Int) = 11)) ⟨h.cn _, hs⟩
         ·
          refine wc_seq (wc_region (wl_ok (r_eql rfl rfl) (wl_ok (r_assign (v := (.bool (decide ((a.op : Int) = 12)))) rfl) (wl_nil (then_normal (wc_ifb hs rfl (fun c68 hs => ?_) (fun c68 hs => ?_)))))))
          ·
           refine wc_skip (then_loop ?_)
           exact jend (decide ((a.op : Int) = 12)) ⟨h.cn _, hs⟩
          ·
           refine wc_region (wl_ok (r_eql rfl rfl) (wl_ok (r_assign (v := (.bool (decide ((a.op : Int) = 13)))) rfl) (wl_nil (then_loop ?_))))
           exact jend (decide ((a.op : Int) = 13)) ⟨h.cn _, hs⟩
      ·
       refine wc_seq (wc_region (wl_ok (r_eql rfl rfl) (wl_ok (r_assign (v := (.bool (decide ((a.op : Int) = 4)))) rfl) (wl_nil (then_normal (wc_ifb hs rfl (fun c69 hs => ?_) (fun c69 hs => ?_)))))))
       ·
        refine wc_skip (then_loop ?_)
        exact jend (decide ((a.op : Int) = 4)) ⟨h.cn _, hs⟩
       ·
        refine wc_region (wl_ok (r_eql rfl rfl) (wl_ok (r_assign (v := (.bool (decide ((a.op : Int) = 6)))) rfl) (wl_nil (then_loop ?_))))
        exact jend (decide ((a.op : Int) = 6)) ⟨h.cn _, hs⟩
def code_Check_b35 (a : List Proc) (x21 : Proc) (i35 : Int) (x36 : Ins) (s : Unit) (nx38 : Unit → Option Int) : Option Int :=
  (code_check x36 i35 a x21.regs (x21.code.length : Int)).bind fun y49 => bif decide ((y49 : Int) ≠ 0) then some y49 else nx38 ()
def code_Check_k36 (x21 : Proc) (nx23 : Unit → Option Int) (s : Unit) : Option Int :=
  grd (I64 ((x21.code.length : Int) - 1)) ((idx x21.code ((x21.code.length : Int) - 1)).bind fun x54 => bif (decide ((x54.op : Int) ≠ 8) && decide ((x54.op : Int) ≠ 12)) then some 4 else nx23 ())
def code_Check_b37 (a : List Proc) (x21 : Proc) (s : Unit) (nx23 : Unit → Option Int) : Option Int :=
  eachI (code_Check_b35 a x21) (code_Check_k36 x21 nx23) 0 x21.code ()
def code_Check_k38 (s : Unit) : Option Int :=
  some 0
def code_Check_b39 (i3 : Int) (x4 : Proc) (s : Unit) (nx6 : Unit → Option Int) : Option Int :=
  bif (((((decide ((x4.params : Int) < 0) || decide ((3 : Int) < x4.params)) || decide ((x4.regs : Int) < 1)) || decide ((x4.regs : Int) < x4.params)) || decide ((40 : Int) < x4.regs)) || (decide ((i3 : Int) = 0) && decide ((0 : Int) < x4.params))) then some 3 else bif (decide (((x4.code.length : Int) : Int) = 0) || decide ((2000 : Int) < (x4.code.length : Int))) then some 2 else nx6 ()
def code_Check_k40 (a : List Proc) (s : Unit) : Option Int :=
  each (code_Check_b37 a) code_Check_k38 a ()
def code_Check (a : List Proc) : Option Int :=
  bif (decide (((a.length : Int) : Int) = 0) || decide ((4 : Int) < (a.length : Int))) then some 2 else eachI code_Check_b39 (code_Check_k40 a) 0 a ()
theorem code_Check_c (w0 : World) (M : BS) (hM : ∀ b, M b → b < w0.heap.size) (va : Value) (a : List Proc) (ha : Rd2 rProc w0 BE M va a) (r : Int) (hs : code_Check a = some r) :
    Calls Tryz.prog 63 #[va] w0 (fun e w' => Grow w0 w' ∧ e = .returned (.int .i64 r)) := by
 refine calls_start (args := [va]) Tryz.func63 rfl Tryz.ntmps63 (Nat.le_of_ble_eq_true rfl) ?_
 have h := SH.init hM
 replace h := h.argSr 1 ha none_own
 have hl_a := ha.len_le
 refine wc_seq (wc_region (wl_ok (r_assign (v := (.int .i64 (0))) rfl) (wl_nil (then_normal (wc_seq (wc_seq (wc_region (wl_ok (r_move (v := va) rfl) (wl_ok (r_len SliceOf22 rfl (h.srS 1 rfl)) (wl_ok (r_eql rfl rfl) (wl_ok (r_move (v := (.bool (decide (((a.length : Int) : Int) = 0)))) rfl) (wl_gd0 rfl rfl (fun q => r_move (v := va) rfl) (wl_gd0 rfl rfl (fun q => r_len SliceOf22 (gvt q) (h.srS 1 rfl)) (wl_gd0 rfl rfl (fun q => r_gtr (gvt q) rfl) (wl_ok (r_por rfl rfl evc) (wl_nil (then_normal (wc_ifb hs rfl (fun c1 hs => ?_) (fun c1 hs => ?_)))))))))))))))))))
 ·
  refine wc_seq (wc_region (wl_ok (r_assign (v := (.int .i64 (2))) rfl) (wl_nil (then_normal (wc_ret (then_ret (fin1 (v := (.int .i64 (2))) Tryz.results63 rfl ?_)))))))
  obtain rfl := Option.some.inj hs
  exact ⟨h.grown, rfl⟩
 ·
  refine wc_skip (then_normal (wc_seq (wc_seq (wc_region (wl_ok (r_move (v := va) rfl) (wl_ok (r_len SliceOf22 rfl (h.srS 1 rfl)) (wl_ok (r_move (v := (.int .i64 (0))) rfl) (wl_nil (then_normal (wc_block (wc_lp (σ := Nat × Int) (inl [2, 3, 4, 21, 22, 23, 24, 25, 26, 27, 28, 29, 30, 31, 32, 33, 34, 35, 36, 37, 38, 39, 40, 41, 42, 43, 44, 45, 46, 47, 48, 49, 50, 51, 52, 53, 54, 55, 56, 57, 58, 59, 60, 61, 62, 63, 64, 65, 66, 67, 68, 69, 70]) (fun ⟨k2, i3⟩ => [(21, (.int .i64 (i3)))]) (fun ⟨k2, i3⟩ w => SH w0 M BE w (hset [(1, .sr rProc va a)]) ∧ i3 = (k2 : Int) ∧ eachI code_Check_b39 (code_Check_k40 a) i3 (a.drop k2) () = some r) (fun ⟨k2, i3⟩ => a.length - k2) ⟨0, 0⟩ ⟨rfl, trivial⟩ ?_ ?_)))))))))))
  ·
   exact ⟨h.cn _, rfl, hs⟩
  ·
   rintro ⟨k2, i3⟩ w junk ⟨h, hik, hs⟩
   refine wc_seq (wc_region ?_)
   refine wl_ok (r_lss rfl rfl) (wl_nil (then_normal ?_))
   refine wc_seq (wc_if rfl (fun e7 => ?_) (fun e7 => ?_))
   ·
    refine wc_skip (then_normal ?_)
    obtain ⟨x4, e8a, e8b⟩ := drop_lt (hik ▸ e7)
    rw [e8b, eachI_cons] at hs
    generalize hnx6 : eachI code_Check_b39 (code_Check_k40 a) (i3 + 1) (a.drop (k2 + 1)) = nx6 at hs
    have e8r := nat_rng ((h.srS 1 rfl)).len_le hik e7
    refine wc_seq (wc_block (wc_seq (wc_region (wl_ok (r_move (v := (.int .i64 (i3))) rfl) ?_))))
    obtain ⟨b10, o11, cs12, h, r13, i9⟩ := h.ixS 1 2 rfl SliceOf22 rfl (nat_nn hik) (get_nat hik e8a)
    obtain ⟨u14, rfl, g15⟩ := rProc_open r13
    replace h := h.knowRd 3 g15.up
    refine wl_ok (i9 _ _ _ _ _ _ _ _ _ rfl rfl) (wl_ok (r_ldPN (k := 0) (vs := [(.int .i64 (x4.params)), (.int .i64 (x4.regs)), u14]) h 2 rfl Many57 rfl rfl rfl (Nat.le_of_ble_eq_true rfl)) (w_allocN h 4 Many57 fun w b16 h => wl_ok (r_assign (v := (.int .i64 (i3))) rfl) (w_stN (vs := [(.int .i64 (x4.params)), (.int .i64 (x4.regs)), u14]) h 4 [(.int .i64 (x4.params)), (.int .i64 (x4.regs)), u14] rfl Many57 rfl rfl rfl rfl rfl (ones_cons rfl (ones_cons rfl (ones_cons (h.rdAt 3 rfl).one ones_nil))) fun w h => wl_nil (then_normal (wc_seq (wc_seq (wc_region (wl_ok (r_fieldAddr Fld57x0 rfl) (wl_ok (r_ldB h 4 rfl One3 rfl rfl) (wl_ok (r_lss rfl rfl) (wl_ok (r_move (v := (.bool (decide ((x4.params : Int) < 0)))) rfl) (wl_gd0 rfl rfl (fun q => r_fieldAddr Fld57x0 rfl) (wl_gd0 rfl rfl (fun q => r_ldB h 4 rfl One3 (gvt q) rfl) (wl_gd0 rfl rfl (fun q => r_gtr (gvt q) rfl) (wl_ok (r_por rfl rfl evc) (wl_ok (r_move (v := (.bool ((decide ((x4.params : Int) < 0) || decide ((3 : Int) < x4.params))))) rfl) (wl_gd0 rfl rfl (fun q => r_fieldAddr Fld57x1 rfl) (wl_gd0 rfl rfl (fun q => r_ldB h 4 rfl One3 (gvt q) rfl) (wl_gd0 rfl rfl (fun q => r_lss (gvt q) rfl) (wl_ok (r_por rfl rfl evc) (wl_ok (r_move (v := (.bool (((decide ((x4.params : Int) < 0) || decide ((3 : Int) < x4.params)) || decide ((x4.regs : Int) < 1))))) rfl) ?_)))))))))))))))))))))
    refine wl_gd0 rfl rfl (fun q => r_fieldAddr Fld57x1 rfl) (wl_gd0 rfl rfl (fun q => r_ldB h 4 rfl One3 (gvt q) rfl) (wl_gd0 rfl rfl (fun q => r_fieldAddr Fld57x0 rfl) (wl_gd0 rfl rfl (fun q => r_ldB h 4 rfl One3 (gvt q) rfl) (wl_gd0 rfl rfl (fun q => r_lss (gvt q) (gvt q)) (wl_ok (r_por rfl rfl evc) (wl_ok (r_move (v := (.bool ((((decide ((x4.params : Int) < 0) || decide ((3 : Int) < x4.params)) || decide ((x4.regs : Int) < 1)) || decide ((x4.regs : Int) < x4.params))))) rfl) (wl_gd0 rfl rfl (fun q => r_fieldAddr Fld57x1 rfl) (wl_gd0 rfl rfl (fun q => r_ldB h 4 rfl One3 (gvt q) rfl) (wl_gd0 rfl rfl (fun q => r_gtr (gvt q) rfl) (wl_ok (r_por rfl rfl evc) (wl_ok (r_move (v := (.bool (((((decide ((x4.params : Int) < 0) || decide ((3 : Int) < x4.params)) || decide ((x4.regs : Int) < 1)) || decide ((x4.regs : Int) < x4.params)) || decide ((40 : Int) < x4.regs))))) rfl) (wl_gd0 rfl rfl (fun q => r_move (v := (.int .i64 (i3))) rfl) (wl_gd0 rfl rfl (fun q => r_eql (gvt q) rfl) (wl_gd0 rfl rfl (fun q => r_move (v := (.bool (decide ((i3 : Int) = 0)))) (gvt q)) (wl_gd (((((decide ((x4.params : Int) < 0) || decide ((3 : Int) < x4.params)) || decide ((x4.regs : Int) < 1)) || decide ((x4.regs : Int) < x4.params)) || decide ((40 : Int) < x4.regs)) == false) rfl rfl (fun q => r_fieldAddr Fld57x0 rfl) (wl_gd (((((decide ((x4.params : Int) < 0) || decide ((3 : Int) < x4.params)) || decide ((x4.regs : Int) < 1)) || decide ((x4.regs : Int) < x4.params)) || decide ((40 : Int) < x4.regs)) == false) rfl rfl (fun q => r_ldB h 4 rfl One3 (gvt q) rfl) (wl_gd (((((decide ((x4.params : Int) < 0) || decide ((3 : Int) < x4.params)) || decide ((x4.regs : Int) < 1)) || decide ((x4.regs : Int) < x4.params)) || decide ((40 : Int) < x4.regs)) == false) rfl rfl (fun q => r_gtr (gvt q) rfl) (wl_gd0 rfl rfl (fun q => r_pand (gvt q) (gvn q) evc) (wl_ok (r_por rfl rfl evc) (wl_nil (then_normal (wc_ifb hs rfl (fun c17 hs => ?_) (fun c17 hs => ?_)))))))))))))))))))))))
    ·
     refine wc_seq (wc_region (wl_ok (r_assign (v := (.int .i64 (3))) rfl) (wl_nil (then_normal (wc_ret (then_ret (inBlock_ret (then_ret (then_ret (inBlock_ret (then_ret (fin1 (v := (.int .i64 (3))) Tryz.results63 rfl ?_))))))))))))
     obtain rfl := Option.some.inj hs
     exact ⟨h.grown, rfl⟩
    ·
     refine wc_skip (then_normal (wc_seq (wc_region (wl_ok (r_fieldAddr Fld57x2 rfl) (wl_ok (r_ldB h 4 rfl One55 rfl rfl) (wl_ok (r_len SliceOf55 rfl (h.rdS 3 rfl)) (wl_ok (r_eql rfl rfl) (wl_ok (r_move (v := (.bool (decide (((x4.code.length : Int) : Int) = 0)))) rfl) (wl_gd0 rfl rfl (fun q => r_fieldAddr Fld57x2 rfl) (wl_gd0 rfl rfl (fun q => r_ldB h 4 rfl One55 (gvt q) rfl) (wl_gd0 rfl rfl (fun q => r_len SliceOf55 (gvt q) (h.rdS 3 rfl)) (wl_gd0 rfl rfl (fun q => r_gtr (gvt q) rfl) (wl_ok (r_por rfl rfl evc) (wl_nil (then_normal (wc_ifb hs rfl (fun c18 hs => ?_) (fun c18 hs => ?_)))))))))))))))))
     ·
      refine wc_seq (wc_region (wl_ok (r_assign (v := (.int .i64 (2))) rfl) (wl_nil (then_normal (wc_ret (inBlock_ret (then_ret (then_ret (inBlock_ret (then_ret (fin1 (v := (.int .i64 (2))) Tryz.results63 rfl ?_)))))))))))
      obtain rfl := Option.some.inj hs
      exact ⟨h.grown, rfl⟩
     ·
      refine wc_skip (inBlock_normal (then_normal (wc_region (wl_ok (r_add rfl rfl e8r) (wl_ok (r_move (v := (.int .i64 ((i3 + 1)))) rfl) (wl_nil (then_loop ?_)))))))
      subst hnx6
      exact lend ⟨k2 + 1, i3 + 1⟩ ⟨h.cn _, by omega, hs⟩ (by have := of_decide_eq_true e7; dsimp only; omega)
   ·
    rw [drop_ge (hik ▸ e7), eachI_nil] at hs
    refine wc_exit (then_exit (then_exit (inBlock_eq (then_normal (wc_seq (wc_seq (wc_region (wl_ok (r_move (v := va) rfl) (wl_ok (r_len SliceOf22 rfl (h.srS 1 rfl)) (wl_ok (r_move (v := (.int .i64 (0))) rfl) (wl_nil (then_normal (wc_block (wc_lp (σ := Nat × Int) (inl [2, 6, 7, 8, 9, 10, 73, 74, 75, 76, 77, 78, 79, 80, 81, 82, 83, 84, 85, 86, 87, 88, 89, 90, 91, 92, 93, 94, 95, 96, 97, 98, 99, 100, 101, 102, 103, 104, 105, 106, 107, 108, 109, 110, 111, 112, 113]) (fun ⟨k19, i20⟩ => [(73, (.int .i64 (i20)))]) (fun ⟨k19, i20⟩ w => SH w0 M BE w (hset [(1, .sr rProc va a)]) ∧ i20 = (k19 : Int) ∧ each (code_Check_b37 a) code_Check_k38 (a.drop k19) () = some r) (fun ⟨k19, i20⟩ => a.length - k19) ⟨0, 0⟩ ⟨rfl, trivial⟩ ?_ ?_))))))))))))))
    ·
     exact ⟨h.cn _, rfl, hs⟩
    ·
     rintro ⟨k19, i20⟩ w junk ⟨h, hik, hs⟩
     refine wc_seq (wc_region ?_)
     refine wl_ok (r_lss rfl rfl) (wl_nil (then_normal ?_))
     refine wc_seq (wc_if rfl (fun e24 => ?_) (fun e24 => ?_))
     ·
      refine wc_skip (then_normal ?_)
      obtain ⟨x21, e25a, e25b⟩ := drop_lt (hik ▸ e24)
      rw [e25b, each_cons] at hs
      generalize hnx23 : each (code_Check_b37 a) code_Check_k38 (a.drop (k19 + 1)) = nx23 at hs
      have e25r := nat_rng ((h.srS 1 rfl)).len_le hik e24
      refine wc_seq (wc_block (wc_seq (wc_region ?_)))
      obtain ⟨b27, o28, cs29, h, r30, i26⟩ := h.ixS 1 5 rfl SliceOf22 rfl (nat_nn hik) (get_nat hik e25a)
      obtain ⟨u31, rfl, g32⟩ := rProc_open r30
      replace h := h.knowRd 6 g32.up
      refine wl_ok (i26 _ _ _ _ _ _ _ _ _ rfl rfl) (wl_ok (r_ldPN (k := 0) (vs := [(.int .i64 (x21.params)), (.int .i64 (x21.regs)), u31]) h 5 rfl Many57 rfl rfl rfl (Nat.le_of_ble_eq_true rfl)) (w_allocN h 7 Many57 fun w b33 h => w_stN (vs := [(.int .i64 (x21.params)), (.int .i64 (x21.regs)), u31]) h 7 [(.int .i64 (x21.params)), (.int .i64 (x21.regs)), u31] rfl Many57 rfl rfl rfl rfl rfl (ones_cons rfl (ones_cons rfl (ones_cons (h.rdAt 6 rfl).one ones_nil))) fun w h => wl_nil (then_normal (wc_seq (wc_seq (wc_region (wl_ok (r_fieldAddr Fld57x2 rfl) (wl_ok (r_ldB h 7 rfl One55 rfl rfl) (wl_ok (r_len SliceOf55 rfl (h.rdS 6 rfl)) (wl_ok (r_move (v := (.int .i64 (0))) rfl) (wl_nil (then_normal (wc_block (wc_lp (σ := Nat × Int) (inl [2, 7, 8, 9, 80, 81, 82, 83, 84, 85, 86, 87, 88, 89, 90, 91, 92, 93, 94, 95, 96, 97]) (fun ⟨k34, i35⟩ => [(80, (.int .i64 (i35)))]) (fun ⟨k34, i35⟩ w => SH w0 M BE w (hset [(1, .sr rProc va a), (6, .rd rIns u31 x21.code), (7, .blk b33 [(.int .i64 (x21.params)), (.int .i64 (x21.regs)), u31])]) ∧ i35 = (k34 : Int) ∧ eachI (code_Check_b35 a x21) (code_Check_k36 x21 nx23) i35 (x21.code.drop k34) () = some r) (fun ⟨k34, i35⟩ => x21.code.length - k34) ⟨0, 0⟩ ⟨rfl, trivial⟩ ?_ ?_))))))))))))))
      ·
       exact ⟨h.cn _, rfl, hs⟩
      ·
       rintro ⟨k34, i35⟩ w junk ⟨h, hik, hs⟩
       refine wc_seq (wc_region ?_)
       refine wl_ok (r_lss rfl rfl) (wl_nil (then_normal ?_))
       refine wc_seq (wc_if rfl (fun e39 => ?_) (fun e39 => ?_))
       ·
        refine wc_skip (then_normal ?_)
        obtain ⟨x36, e40a, e40b⟩ := drop_lt (hik ▸ e39)
        rw [e40b, eachI_cons] at hs
        generalize hnx38 : eachI (code_Check_b35 a x21) (code_Check_k36 x21 nx23) (i35 + 1) (x21.code.drop (k34 + 1)) = nx38 at hs
        have e40r := nat_rng ((h.rdS 6 rfl)).len_le hik e39
        refine wc_seq (wc_block (wc_seq (wc_region (wl_ok (r_move (v := (.int .i64 (i35))) rfl) ?_))))
        obtain ⟨b42, o43, cs44, h, r45, i41⟩ := h.ixR 6 8 rfl SliceOf55 rfl (nat_nn hik) (get_nat hik e40a)
        obtain ⟨u46, rfl, g47⟩ := rIns_open r45
        replace h := h.knowRd 9 g47.up
        refine wl_ok (i41 _ _ _ _ _ _ _ _ _ rfl rfl) (wl_ok (r_ldPN (k := 0) (vs := [(.int .i64 (x36.op)), (.int .i64 (x36.a)), (.int .i64 (x36.b)), (.int .i64 (x36.c)), u46]) h 8 rfl Many93 rfl rfl rfl (Nat.le_of_ble_eq_true rfl)) (w_allocN h 10 Many93 fun w b48 h => wl_ok (r_assign (v := (.int .i64 (i35))) rfl) (w_stN (vs := [(.int .i64 (x36.op)), (.int .i64 (x36.a)), (.int .i64 (x36.b)), (.int .i64 (x36.c)), u46]) h 10 [(.int .i64 (x36.op)), (.int .i64 (x36.a)), (.int .i64 (x36.b)), (.int .i64 (x36.c)), u46] rfl Many93 rfl rfl rfl rfl rfl (ones_cons rfl (ones_cons rfl (ones_cons rfl (ones_cons rfl (ones_cons (h.rdAt 9 rfl).one ones_nil))))) fun w h => wl_nil (then_normal (wc_seq (wc_region (wl_ok (r_ldBN (vs := [(.int .i64 (x36.op)), (.int .i64 (x36.a)), (.int .i64 (x36.b)), (.int .i64 (x36.c)), u46]) h 10 rfl Many93 rfl rfl rfl) (wl_ok (r_move (v := (.int .i64 (i35))) rfl) (wl_ok (r_move (v := va) rfl) (wl_ok (r_fieldAddr Fld57x1 rfl) (wl_ok (r_ldB h 7 rfl One3 rfl rfl) (wl_ok (r_fieldAddr Fld57x2 rfl) (wl_ok (r_ldB h 7 rfl One55 rfl rfl) (wl_ok (r_len SliceOf55 rfl (h.rdS 6 rfl)) ?_))))))))))))))
        obtain ⟨y49, e50, hs⟩ := o_bind hs
        refine w_call fnOk86 rfl rfl (code_check_c _ _ h.lt x36 u46 (h.rdS 9 rfl) i35 va a (h.srS 1 rfl) x21.regs (x21.code.length : Int) _ e50) ?_
        rintro _ w ⟨k51, rfl⟩
        refine ⟨_, rfl, ?_⟩
        replace h := h.grow k51
        refine wl_ok (r_assign (v := (.int .i64 (y49))) rfl) (wl_nil (then_normal (wc_seq (wc_region (wl_ok (r_move (v := (.int .i64 (y49))) rfl) (wl_ok (r_neq rfl rfl) (wl_nil (then_normal (wc_ifb hs rfl (fun c52 hs => ?_) (fun c52 hs => ?_))))))))))
        ·
         refine wc_seq (wc_region (wl_ok (r_move (v := (.int .i64 (y49))) rfl) (wl_ok (r_assign (v := (.int .i64 (y49))) rfl) (wl_nil (then_normal (wc_ret (inBlock_ret (then_ret (then_ret (inBlock_ret (then_ret (inBlock_ret (then_ret (then_ret (inBlock_ret (then_ret (fin1 (v := (.int .i64 (y49))) Tryz.results63 rfl ?_)))))))))))))))))
         obtain rfl := Option.some.inj hs
         exact ⟨h.grown, rfl⟩
        ·
         refine wc_skip (inBlock_normal (then_normal (wc_region (wl_ok (r_add rfl rfl e40r) (wl_ok (r_move (v := (.int .i64 ((i35 + 1)))) rfl) (wl_nil (then_loop ?_)))))))
         subst hnx38
         exact lend ⟨k34 + 1, i35 + 1⟩ ⟨h.cn _, by omega, hs⟩ (by have := of_decide_eq_true e39; dsimp only; omega)
       ·
        rw [drop_ge (hik ▸ e39), eachI_nil] at hs
        refine wc_exit (then_exit (then_exit (inBlock_eq (then_normal (wc_seq (wc_region (wl_ok (r_fieldAddr Fld57x2 rfl) (wl_ok (r_ldB h 7 rfl One55 rfl rfl) (wl_ok (r_fieldAddr Fld57x2 rfl) (wl_ok (r_ldB h 7 rfl One55 rfl rfl) (wl_ok (r_len SliceOf55 rfl (h.rdS 6 rfl)) ?_)))))))))))
        obtain ⟨a53, hs⟩ := o_grd hs
        refine wl_ok (r_sub rfl rfl a53) ?_
        obtain ⟨x54, e55, hs⟩ := o_bind hs
        obtain ⟨b57, o58, cs59, h, r60, i56⟩ := h.ixR 6 11 rfl SliceOf55 rfl (o_idx e55).1 (o_idx e55).2
        obtain ⟨u61, rfl, g62⟩ := rIns_open r60
        replace h := h.knowRd 12 g62.up
        refine wl_ok (i56 _ _ _ _ _ _ _ _ _ rfl rfl) (wl_ok (r_fieldAddr Fld93x0 rfl) (wl_ok (r_ldP (k := 0) h 11 rfl One3 rfl rfl) (wl_ok (r_assign (v := (.int .i64 (x54.op))) rfl) (wl_nil (then_normal (wc_seq (wc_region (wl_ok (r_move (v := (.int .i64 (x54.op))) rfl) (wl_ok (r_neq rfl rfl) (wl_ok (r_move (v := (.bool (decide ((x54.op : Int) ≠ 8)))) rfl) (wl_gd0 rfl rfl (fun q => r_move (v := (.int .i64 (x54.op))) rfl) (wl_gd0 rfl rfl (fun q => r_neq (gvt q) rfl) (wl_ok (r_pand rfl rfl evc) (wl_nil (then_normal (wc_ifb hs rfl (fun c63 hs => ?_) (fun c63 hs => ?_)))))))))))))))))
        ·
         refine wc_seq (wc_region (wl_ok (r_assign (v := (.int .i64 (4))) rfl) (wl_nil (then_normal (wc_ret (inBlock_ret (then_ret (then_ret (inBlock_ret (then_ret (fin1 (v := (.int .i64 (4))) Tryz.results63 rfl ?_)))))))))))
         obtain rfl := Option.some.inj hs
         exact ⟨h.grown, rfl⟩
        ·
         refine wc_skip (inBlock_normal (then_normal (wc_region (wl_ok (r_add rfl rfl e25r) (wl_ok (r_move (v := (.int .i64 ((i20 + 1)))) rfl) (wl_nil (then_loop ?_)))))))
         subst hnx23
         exact lend ⟨k19 + 1, i20 + 1⟩ ⟨h.cn _, by omega, hs⟩ (by have := of_decide_eq_true e24; dsimp only; omega)
     ·
      rw [drop_ge (hik ▸ e24), each_nil] at hs
      refine wc_exit (then_exit (then_exit (inBlock_eq (then_normal (wc_seq (wc_region (wl_ok (r_assign (v := (.int .i64 (0))) rfl) (wl_nil (then_normal (wc_ret (fin1 (v := (.int .i64 (0))) Tryz.results63 rfl ?_)))))))))))
      obtain rfl := Option.some.inj hs
      exact ⟨h.grown, rfl⟩
def vm_New (a : List Proc) : Option (LX.State × Int) :=
  (code_Check a).bind fun y2 => bif decide ((y2 : Int) ≠ 0) then some ((⟨[], [], 0, 0⟩ : LX.State), y2) else (idx a 0).bind fun x6 => grd (0 ≤ x6.regs ∧ x6.regs * 16 ≤ 140737488355328) (some ((⟨[(⟨0, 0, (List.replicate x6.regs.toNat (⟨0, 0⟩ : Val)), 0⟩ : LX.Frame)], [], 0, 0⟩ : LX.State), 0))
theorem vm_New_c (w0 : World) (M : BS) (hM : ∀ b, M b → b < w0.heap.size) (va : Value) (a : List Proc) (ha : Rd2 rProc w0 BE M va a) (r : LX.State × Int) (hs : vm_New a = some r) :
    Calls Tryz.prog 29 #[va] w0 (fun e w' => Grow w0 w' ∧ ∃ u0_0, ∃ u0_1, e = .returned (.tuple #[.agg #[u0_0, u0_1, .int .i64 r.1.status, .int .i64 r.1.wher], .int .i64 r.2]) ∧ RdSl rFrame w' M u0_0 r.1.frames ∧ RdSl (rSl rVal) w' M u0_1 r.1.cells) := by
 refine calls_start (args := [va]) Tryz.func29 rfl Tryz.ntmps29 (Nat.le_of_ble_eq_true rfl) ?_
 have h := SH.init hM
 replace h := h.argSr 1 ha none_own
 have hl_a := ha.len_le
 refine wc_seq (wc_region (w_allocN h 2 Many26 fun w b1 h => wl_ok (r_assign (v := (.int .i64 (0))) rfl) (wl_nil (then_normal (wc_seq (wc_seq (wc_region (wl_ok (r_move (v := va) rfl) ?_))))))))
 obtain ⟨y2, e3, hs⟩ := o_bind hs
 refine w_call fnOk63 rfl rfl (code_Check_c _ _ h.lt va a (h.srS 1 rfl) _ e3) ?_
 rintro _ w ⟨k4, rfl⟩
 refine ⟨_, rfl, ?_⟩
 replace h := h.grow k4
 refine wl_ok (r_assign (v := (.int .i64 (y2))) rfl) (wl_nil (then_normal (wc_seq (wc_region (wl_ok (r_move (v := (.int .i64 (y2))) rfl) (wl_ok (r_neq rfl rfl) (wl_nil (then_normal (wc_ifb hs rfl (fun c5 hs => ?_) (fun c5 hs => ?_))))))))))
 ·
  refine wc_seq (wc_region (wl_ok (r_build (pv := []) (out := [(.slice none 0 0), (.slice none 0 0), (.int .i64 (0)), (.int .i64 (0))]) Struct26 rfl rfl) (wl_ok (r_move (v := (.int .i64 (y2))) rfl) (w_stN (vs := [(.slice none 0 0), (.slice none 0 0), (.int .i64 (0)), (.int .i64 (0))]) h 2 [(.slice none 0 0), (.slice none 0 0), (.int .i64 (0)), (.int .i64 (0))] rfl Many26 rfl rfl rfl rfl rfl (ones_cons rfl (ones_cons rfl (ones_cons rfl (ones_cons rfl ones_nil)))) fun w h => wl_ok (r_assign (v := (.int .i64 (y2))) rfl) (wl_nil (then_normal (wc_ret (then_ret (fin_ct (vs := [(.slice none 0 0), (.slice none 0 0), (.int .i64 (0)), (.int .i64 (0))]) (v2 := (.int .i64 (y2))) Tryz.results29 rfl rfl h 2 rfl Many26 rfl ?_)))))))))
  obtain rfl := Option.some.inj hs
  exact ⟨h.grown, _, _, rfl, Rd2.nil, Rd2.nil⟩
 ·
  refine wc_skip (then_normal (wc_seq (wc_region (wl_ok (r_move (v := va) rfl) ?_))))
  obtain ⟨x6, e7, hs⟩ := o_bind hs
  obtain ⟨b9, o10, cs11, h, r12, i8⟩ := h.ixS 1 3 rfl SliceOf22 rfl (o_idx e7).1 (o_idx e7).2
  obtain ⟨u13, rfl, g14⟩ := rProc_open r12
  replace h := h.knowRd 4 g14.up
  refine wl_ok (i8 _ _ _ _ _ _ _ _ _ rfl rfl) (wl_ok (r_fieldAddr Fld57x1 rfl) (wl_ok (r_ldP (k := 1) h 3 rfl One3 rfl rfl) ?_))
  obtain ⟨a16, hs⟩ := o_grd hs
  refine w_makeSlN (R := rVal) (zs := [(.int .i64 (0)), (.int .i64 (0))]) (a := (⟨0, 0⟩ : Val)) h 5 ElemOf47 Many51 rfl (by decide) rfl rfl a16 rfl (fun _ _ => rfl) fun w u15 h u15k u15f => wl_ok (r_build (pv := [(2, u15)]) (out := [(.int .i64 (0)), (.int .i64 (0)), u15, (.int .i64 (0))]) Struct49 rfl ⟨2, 1, [u15], rfl, (toList_of_one (h.ownAt 5 rfl).one), rfl, Nat.le_of_ble_eq_true rfl, rfl⟩) ?_
  replace h := h.freeze 5 rfl
  refine w_bs (R := rFrame) (vs := [(.agg #[(.int .i64 (0)), (.int .i64 (0)), u15, (.int .i64 (0))])]) (xs := [(⟨0, 0, (List.replicate x6.regs.toNat (⟨0, 0⟩ : Val)), 0⟩ : LX.Frame)]) h 6 ElemOf23 rfl rfl rfl ⟨⟨_, rfl, (h.rdAt 5 rfl)⟩, trivial⟩ rfl fun w u17 h => wl_ok (r_build (pv := [(0, u17)]) (out := [u17, (.slice none 0 0), (.int .i64 (0)), (.int .i64 (0))]) Struct26 rfl ⟨0, 1, [u17], rfl, (toList_of_one (h.ownAt 6 rfl).one), rfl, Nat.le_of_ble_eq_true rfl, rfl⟩) (w_stN (vs := [u17, (.slice none 0 0), (.int .i64 (0)), (.int .i64 (0))]) h 2 [u17, (.slice none 0 0), (.int .i64 (0)), (.int .i64 (0))] rfl Many26 rfl rfl rfl rfl rfl (ones_cons (h.ownAt 6 rfl).one (ones_cons rfl (ones_cons rfl (ones_cons rfl ones_nil)))) fun w h => wl_ok (r_assign (v := (.int .i64 (0))) rfl) (wl_nil (then_normal (wc_ret (fin_ct (vs := [u17, (.slice none 0 0), (.int .i64 (0)), (.int .i64 (0))]) (v2 := (.int .i64 (0))) Tryz.results29 rfl rfl h 2 rfl Many26 rfl ?_)))))
  replace h := h.freeze 6 rfl
  obtain rfl := Option.some.inj hs
  exact ⟨h.grown, _, _, rfl, h.outRd 6 rfl, Rd2.nil⟩
def cell_Check (a : Val) (b : Int) : Int :=
  bif decide ((a.kind : Int) = 0) then bif decide ((a.n : Int) ≠ 0) then 4 else 0 else bif decide ((a.kind : Int) = 1) then bif (decide ((a.n : Int) < -1000000000) || decide ((1000000000 : Int) < a.n)) then 3 else 0 else bif decide ((a.kind : Int) = 2) then bif (decide ((a.n : Int) < 0) || decide ((b : Int) ≤ a.n)) then 5 else 0 else 4
theorem cell_Check_c (w0 : World) (M : BS) (hM : ∀ b, M b → b < w0.heap.size) (a : Val) (b : Int) (r : Int) (hs : cell_Check a b = r) :
    Calls Tryz.prog 81 #[(.agg #[(.int .i64 (a.kind)), (.int .i64 (a.n))]), (.int .i64 (b))] w0 (fun e w' => Grow w0 w' ∧ e = .returned (.int .i64 r)) := by
 refine calls_start (args := [(.agg #[(.int .i64 (a.kind)), (.int .i64 (a.n))]), (.int .i64 (b))]) Tryz.func81 rfl Tryz.ntmps81 (Nat.le_of_ble_eq_true rfl) ?_
 have h := SH.init hM
 refine wc_seq (wc_region (w_box (cs := [(.int .i64 (a.kind)), (.int .i64 (a.n))]) h 1 rfl rfl fun w b1 h => wl_ok (r_assign (v := (.int .i64 (0))) rfl) (wl_nil (then_normal (wc_seq (wc_seq (wc_region (wl_ok (r_fieldAddr Fld51x0 rfl) (wl_ok (r_ldB h 1 rfl One3 rfl rfl) (wl_nil (then_normal (wc_block (wc_seq (wc_region (wl_ok (r_eql rfl rfl) (wl_ok (r_assign (v := (.bool (decide ((a.kind : Int) = 0)))) rfl) (wl_nil (then_normal (wc_ifb hs rfl (fun c2 hs => ?_) (fun c2 hs => ?_))))))))))))))))))))
 ·
  refine wc_seq (wc_region (wl_ok (r_fieldAddr Fld51x1 rfl) (wl_ok (r_ldB h 1 rfl One3 rfl rfl) (wl_ok (r_neq rfl rfl) (wl_nil (then_normal (wc_ifb hs rfl (fun c3 hs => ?_) (fun c3 hs => ?_))))))))
  ·
   refine wc_seq (wc_region (wl_ok (r_assign (v := (.int .i64 (4))) rfl) (wl_nil (then_normal (wc_ret (inBlock_ret (then_ret (fin1 (v := (.int .i64 (4))) Tryz.results81 rfl ?_))))))))
   obtain rfl := hs
   exact ⟨h.grown, rfl⟩
  ·
   refine wc_skip (inBlock_normal (then_normal (wc_seq (wc_region (wl_ok (r_assign (v := (.int .i64 (0))) rfl) (wl_nil (then_normal (wc_ret (fin1 (v := (.int .i64 (0))) Tryz.results81 rfl ?_)))))))))
   obtain rfl := hs
   exact ⟨h.grown, rfl⟩
 ·
  refine wc_seq (wc_region (wl_ok (r_eql rfl rfl) (wl_ok (r_assign (v := (.bool (decide ((a.kind : Int) = 1)))) rfl) (wl_nil (then_normal (wc_ifb hs rfl (fun c4 hs => ?_) (fun c4 hs => ?_)))))))
  ·
   refine wc_seq (wc_region (wl_ok (r_fieldAddr Fld51x1 rfl) (wl_ok (r_ldB h 1 rfl One3 rfl rfl) (wl_ok (r_lss rfl rfl) (wl_ok (r_move (v := (.bool (decide ((a.n : Int) < -1000000000)))) rfl) (wl_gd0 rfl rfl (fun q => r_fieldAddr Fld51x1 rfl) (wl_gd0 rfl rfl (fun q => r_ldB h 1 rfl One3 (gvt q) rfl) (wl_gd0 rfl rfl (fun q => r_gtr (gvt q) rfl) (wl_ok (r_por rfl rfl evc) (wl_nil (then_normal (wc_ifb hs rfl (fun c5 hs => ?_) (fun c5 hs => ?_)))))))))))))
   ·
    refine wc_seq (wc_region (wl_ok (r_assign (v := (.int .i64 (3))) rfl) (wl_nil (then_normal (wc_ret (inBlock_ret (then_ret (fin1 (v := (.int .i64 (3))) Tryz.results81 rfl ?_))))))))
    obtain rfl := hs
    exact ⟨h.grown, rfl⟩
   ·
    refine wc_skip (inBlock_normal (then_normal (wc_seq (wc_region (wl_ok (r_assign (v := (.int .i64 (0))) rfl) (wl_nil (then_normal (wc_ret (fin1 (v := (.int .i64 (0))) Tryz.results81 rfl ?_)))))))))
    obtain rfl := hs
    exact ⟨h.grown, rfl⟩
  ·
   refine wc_seq (wc_region (wl_ok (r_eql rfl rfl) (wl_ok (r_assign (v := (.bool (decide ((a.kind : Int) = 2)))) rfl) (wl_nil (then_normal (wc_ifb hs rfl (fun c6 hs => ?_) (fun c6 hs => ?_)))))))
   ·
    refine wc_seq (wc_region (wl_ok (r_fieldAddr Fld51x1 rfl) (wl_ok (r_ldB h 1 rfl One3 rfl rfl) (wl_ok (r_lss rfl rfl) (wl_ok (r_move (v := (.bool (decide ((a.n : Int) < 0)))) rfl) (wl_gd0 rfl rfl (fun q => r_fieldAddr Fld51x1 rfl) (wl_gd0 rfl rfl (fun q => r_ldB h 1 rfl One3 (gvt q) rfl) (wl_gd0 rfl rfl (fun q => r_move (v := (.int .i64 (b))) rfl) (wl_gd0 rfl rfl (fun q => r_geq (gvt q) (gvt q)) (wl_ok (r_por rfl rfl evc) (wl_nil (then_normal (wc_ifb hs rfl (fun c7 hs => ?_) (fun c7 hs => ?_))))))))))))))
    ·
     refine wc_seq (wc_region (wl_ok (r_assign (v := (.int .i64 (5))) rfl) (wl_nil (then_normal (wc_ret (inBlock_ret (then_ret (fin1 (v := (.int .i64 (5))) Tryz.results81 rfl ?_))))))))
     obtain rfl := hs
     exact ⟨h.grown, rfl⟩
    ·
     refine wc_skip (inBlock_normal (then_normal (wc_seq (wc_region (wl_ok (r_assign (v := (.int .i64 (0))) rfl) (wl_nil (then_normal (wc_ret (fin1 (v := (.int .i64 (0))) Tryz.results81 rfl ?_)))))))))
     obtain rfl := hs
     exact ⟨h.grown, rfl⟩
   ·
    refine wc_seq (wc_region (wl_ok (r_assign (v := (.int .i64 (4))) rfl) (wl_nil (then_normal (wc_ret (inBlock_ret (then_ret (fin1 (v := (.int .i64 (4))) Tryz.results81 rfl ?_))))))))
    obtain rfl := hs
    exact ⟨h.grown, rfl⟩
def cell_CheckAll_b17 (a : List (List Val)) (x19 : Val) (s : Unit) (nx21 : Unit → Int) : Int :=
  bif decide (((cell_Check x19 (a.length : Int)) : Int) ≠ 0) then (cell_Check x19 (a.length : Int)) else nx21 ()
def cell_CheckAll_k18 (nx6 : Unit → Int) (s : Unit) : Int :=
  nx6 ()
def cell_CheckAll_b19 (a : List (List Val)) (x4 : List Val) (s : Unit) (nx6 : Unit → Int) : Int :=
  bif (decide (((x4.length : Int) : Int) = 0) || decide ((4 : Int) < (x4.length : Int))) then 2 else each (cell_CheckAll_b17 a) (cell_CheckAll_k18 nx6) x4 ()
def cell_CheckAll_k20 (s : Unit) : Int :=
  0
def cell_CheckAll (a : List (List Val)) : Int :=
  bif decide ((24 : Int) < (a.length : Int)) then 2 else each (cell_CheckAll_b19 a) cell_CheckAll_k20 a ()
theorem cell_CheckAll_c (w0 : World) (M : BS) (hM : ∀ b, M b → b < w0.heap.size) (va : Value) (a : List (List Val)) (ha : Rd2 (rSl rVal) w0 BE M va a) (r : Int) (hs : cell_CheckAll a = r) :
    Calls Tryz.prog 80 #[va] w0 (fun e w' => Grow w0 w' ∧ e = .returned (.int .i64 r)) := by
 refine calls_start (args := [va]) Tryz.func80 rfl Tryz.ntmps80 (Nat.le_of_ble_eq_true rfl) ?_
 have h := SH.init hM
 replace h := h.argSr 1 ha none_own
 have hl_a := ha.len_le
 refine wc_seq (wc_region (wl_ok (r_assign (v := (.int .i64 (0))) rfl) (wl_nil (then_normal (wc_seq (wc_seq (wc_region (wl_ok (r_move (v := va) rfl) (wl_ok (r_len SliceOf24 rfl (h.srS 1 rfl)) (wl_ok (r_gtr rfl rfl) (wl_nil (then_normal (wc_ifb hs rfl (fun c1 hs => ?_) (fun c1 hs => ?_))))))))))))))
 ·
  refine wc_seq (wc_region (wl_ok (r_assign (v := (.int .i64 (2))) rfl) (wl_nil (then_normal (wc_ret (then_ret (fin1 (v := (.int .i64 (2))) Tryz.results80 rfl ?_)))))))
  obtain rfl := hs
  exact ⟨h.grown, rfl⟩
 ·
  refine wc_skip (then_normal (wc_seq (wc_seq (wc_region (wl_ok (r_move (v := va) rfl) (wl_ok (r_len SliceOf24 rfl (h.srS 1 rfl)) (wl_ok (r_move (v := (.int .i64 (0))) rfl) (wl_nil (then_normal (wc_block (wc_lp (σ := Nat × Int) (inl [2, 4, 6, 7, 13, 14, 15, 16, 17, 18, 19, 20, 21, 22, 23, 24, 25, 26, 27, 28, 29, 30, 31, 32, 33, 34, 35, 36, 37, 38, 39]) (fun ⟨k2, i3⟩ => [(13, (.int .i64 (i3)))]) (fun ⟨k2, i3⟩ w => SH w0 M BE w (hset [(1, .sr (rSl rVal) va a)]) ∧ i3 = (k2 : Int) ∧ each (cell_CheckAll_b19 a) cell_CheckAll_k20 (a.drop k2) () = r) (fun ⟨k2, i3⟩ => a.length - k2) ⟨0, 0⟩ ⟨rfl, trivial⟩ ?_ ?_)))))))))))
  ·
   exact ⟨h.cn _, rfl, hs⟩
  ·
   rintro ⟨k2, i3⟩ w junk ⟨h, hik, hs⟩
   refine wc_seq (wc_region ?_)
   refine wl_ok (r_lss rfl rfl) (wl_nil (then_normal ?_))
   refine wc_seq (wc_if rfl (fun e7 => ?_) (fun e7 => ?_))
   ·
    refine wc_skip (then_normal ?_)
    obtain ⟨x4, e8a, e8b⟩ := drop_lt (hik ▸ e7)
    rw [e8b, each_cons] at hs
    generalize hnx6 : each (cell_CheckAll_b19 a) cell_CheckAll_k20 (a.drop (k2 + 1)) = nx6 at hs
    have e8r := nat_rng ((h.srS 1 rfl)).len_le hik e7
    refine wc_seq (wc_block (wc_seq (wc_region ?_)))
    obtain ⟨b10, o11, cs12, h, r13, i9⟩ := h.ixS 1 2 rfl SliceOf24 rfl (nat_nn hik) (get_nat hik e8a)
    obtain ⟨u14, rfl, g15⟩ := r13
    replace h := h.knowRd 3 g15.up
    refine wl_ok (i9 _ _ _ _ _ _ _ _ _ rfl rfl) (wl_ok (r_ldP (k := 0) h 2 rfl One47 rfl rfl) (wl_ok (r_assign (v := u14) rfl) (wl_nil (then_normal (wc_seq (wc_seq (wc_region (wl_ok (r_move (v := u14) rfl) (wl_ok (r_len SliceOf47 rfl (h.rdS 3 rfl)) (wl_ok (r_eql rfl rfl) (wl_ok (r_move (v := (.bool (decide (((x4.length : Int) : Int) = 0)))) rfl) (wl_gd0 rfl rfl (fun q => r_move (v := u14) rfl) (wl_gd0 rfl rfl (fun q => r_len SliceOf47 (gvt q) (h.rdS 3 rfl)) (wl_gd0 rfl rfl (fun q => r_gtr (gvt q) rfl) (wl_ok (r_por rfl rfl evc) (wl_nil (then_normal (wc_ifb hs rfl (fun c16 hs => ?_) (fun c16 hs => ?_)))))))))))))))))))
    ·
     refine wc_seq (wc_region (wl_ok (r_assign (v := (.int .i64 (2))) rfl) (wl_nil (then_normal (wc_ret (then_ret (inBlock_ret (then_ret (then_ret (inBlock_ret (then_ret (fin1 (v := (.int .i64 (2))) Tryz.results80 rfl ?_))))))))))))
     obtain rfl := hs
     exact ⟨h.grown, rfl⟩
    ·
     refine wc_skip (then_normal (wc_seq (wc_region (wl_ok (r_move (v := u14) rfl) (wl_ok (r_len SliceOf47 rfl (h.rdS 3 rfl)) (wl_ok (r_move (v := (.int .i64 (0))) rfl) (wl_nil (then_normal (wc_block (wc_lp (σ := Nat × Int) (inl [2, 6, 7, 27, 28, 29, 30, 31, 32, 33, 34, 35, 36, 37, 38]) (fun ⟨k17, i18⟩ => [(27, (.int .i64 (i18)))]) (fun ⟨k17, i18⟩ w => SH w0 M BE w (hset [(1, .sr (rSl rVal) va a), (3, .rd rVal u14 x4)]) ∧ i18 = (k17 : Int) ∧ each (cell_CheckAll_b17 a) (cell_CheckAll_k18 nx6) (x4.drop k17) () = r) (fun ⟨k17, i18⟩ => x4.length - k17) ⟨0, 0⟩ ⟨rfl, trivial⟩ ?_ ?_))))))))))
     ·
      exact ⟨h.cn _, rfl, hs⟩
     ·
      rintro ⟨k17, i18⟩ w junk ⟨h, hik, hs⟩
      refine wc_seq (wc_region ?_)
      refine wl_ok (r_lss rfl rfl) (wl_nil (then_normal ?_))
      refine wc_seq (wc_if rfl (fun e22 => ?_) (fun e22 => ?_))
      ·
       refine wc_skip (then_normal ?_)
       obtain ⟨x19, e23a, e23b⟩ := drop_lt (hik ▸ e22)
       rw [e23b, each_cons] at hs
       generalize hnx21 : each (cell_CheckAll_b17 a) (cell_CheckAll_k18 nx6) (x4.drop (k17 + 1)) = nx21 at hs
       have e23r := nat_rng ((h.rdS 3 rfl)).len_le hik e22
       refine wc_seq (wc_block (wc_seq (wc_region ?_)))
       obtain ⟨b25, o26, cs27, h, r28, i24⟩ := h.ixR 3 4 rfl SliceOf47 rfl (nat_nn hik) (get_nat hik e23a)
       obtain rfl := r28
       refine wl_ok (i24 _ _ _ _ _ _ _ _ _ rfl rfl) (wl_ok (r_ldPN (k := 0) (vs := [(.int .i64 (x19.kind)), (.int .i64 (x19.n))]) h 4 rfl Many51 rfl rfl rfl (Nat.le_of_ble_eq_true rfl)) (w_allocN h 5 Many51 fun w b29 h => w_stN (vs := [(.int .i64 (x19.kind)), (.int .i64 (x19.n))]) h 5 [(.int .i64 (x19.kind)), (.int .i64 (x19.n))] rfl Many51 rfl rfl rfl rfl rfl (ones_cons rfl (ones_cons rfl ones_nil)) fun w h => wl_nil (then_normal (wc_seq (wc_region (wl_ok (r_ldBN (vs := [(.int .i64 (x19.kind)), (.int .i64 (x19.n))]) h 5 rfl Many51 rfl rfl rfl) (wl_ok (r_move (v := va) rfl) (wl_ok (r_len SliceOf24 rfl (h.srS 1 rfl)) (w_call fnOk81 rfl rfl (cell_Check_c _ _ h.lt x19 (a.length : Int) _ rfl) ?_)))))))))
       rintro _ w ⟨k30, rfl⟩
       refine ⟨_, rfl, ?_⟩
       replace h := h.grow k30
       refine wl_ok (r_assign (v := (.int .i64 ((cell_Check x19 (a.length : Int))))) rfl) (wl_nil (then_normal (wc_seq (wc_region (wl_ok (r_move (v := (.int .i64 ((cell_Check x19 (a.length : Int))))) rfl) (wl_ok (r_neq rfl rfl) (wl_nil (then_normal (wc_ifb hs rfl (fun c31 hs => ?_) (fun c31 hs => ?_))))))))))
       ·
        refine wc_seq (wc_region (wl_ok (r_move (v := (.int .i64 ((cell_Check x19 (a.length : Int))))) rfl) (wl_ok (r_assign (v := (.int .i64 ((cell_Check x19 (a.length : Int))))) rfl) (wl_nil (then_normal (wc_ret (inBlock_ret (then_ret (then_ret (inBlock_ret (inBlock_ret (then_ret (then_ret (inBlock_ret (then_ret (fin1 (v := (.int .i64 ((cell_Check x19 (a.length : Int))))) Tryz.results80 rfl ?_))))))))))))))))
        obtain rfl := hs
        exact ⟨h.grown, rfl⟩
       ·
        refine wc_skip (inBlock_normal (then_normal (wc_region (wl_ok (r_add rfl rfl e23r) (wl_ok (r_move (v := (.int .i64 ((i18 + 1)))) rfl) (wl_nil (then_loop ?_)))))))
        subst hnx21
        exact lend ⟨k17 + 1, i18 + 1⟩ ⟨h.cn _, by omega, hs⟩ (by have := of_decide_eq_true e22; dsimp only; omega)
      ·
       rw [drop_ge (hik ▸ e22), each_nil] at hs
       refine wc_exit (then_exit (then_exit (inBlock_eq (inBlock_normal (then_normal (wc_region (wl_ok (r_add rfl rfl e8r) (wl_ok (r_move (v := (.int .i64 ((i3 + 1)))) rfl) (wl_nil (then_loop ?_))))))))))
       subst hnx6
       exact lend ⟨k2 + 1, i3 + 1⟩ ⟨h.cn _, by omega, hs⟩ (by have := of_decide_eq_true e7; dsimp only; omega)
   ·
    rw [drop_ge (hik ▸ e7), each_nil] at hs
    refine wc_exit (then_exit (then_exit (inBlock_eq (then_normal (wc_seq (wc_region (wl_ok (r_assign (v := (.int .i64 (0))) rfl) (wl_nil (then_normal (wc_ret (fin1 (v := (.int .i64 (0))) Tryz.results80 rfl ?_)))))))))))
    obtain rfl := hs
    exact ⟨h.grown, rfl⟩
def vm_check_b33 (b : LX.State) (x38 : Val) (s : Unit) (nx40 : Unit → Option Int) : Option Int :=
  bif decide (((cell_Check x38 (b.cells.length : Int)) : Int) ≠ 0) then some (cell_Check x38 (b.cells.length : Int)) else nx40 ()
def vm_check_k34 (nx11 : Unit → Option Int) (s : Unit) : Option Int :=
  nx11 ()
def vm_check_j32 (x9 : LX.Frame) (x23 : Proc) (b : LX.State) (nx11 : Unit → Option Int) (x33 : Bool) : Option Int :=
  bif x33 then some 3 else bif decide (((x9.regs.length : Int) : Int) ≠ x23.regs) then some 4 else each (vm_check_b33 b) (vm_check_k34 nx11) x9.regs ()
def vm_check_b35 (a : List Proc) (b : LX.State) (i8 : Int) (x9 : LX.Frame) (s : Unit) (nx11 : Unit → Option Int) : Option Int :=
  bif (decide ((x9.proc : Int) < 0) || decide (((a.length : Int) : Int) ≤ x9.proc)) then some 5 else (idx a x9.proc).bind fun x23 => bif (((decide ((x9.at_ : Int) < 0) || decide (((x23.code.length : Int) : Int) ≤ x9.at_)) || decide ((x9.to_ : Int) < 0)) || (decide ((i8 : Int) = 0) && decide ((x9.to_ : Int) ≠ 0))) then vm_check_j32 x9 x23 b nx11 true else bif decide ((0 : Int) < i8) then grd (I64 (i8 - 1)) ((idx b.frames (i8 - 1)).bind fun x54 => vm_check_j32 x9 x23 b nx11 (decide (((x54.regs.length : Int) : Int) ≤ x9.to_))) else vm_check_j32 x9 x23 b nx11 false
def vm_check_k36 (s : Unit) : Option Int :=
  some 0
def vm_check (a : List Proc) (b : LX.State) : Option Int :=
  bif (((decide ((b.status : Int) < 0) || decide ((3 : Int) < b.status)) || decide ((b.wher : Int) < -1000000000)) || decide ((1000000000 : Int) < b.wher)) then some 3 else bif ((decide ((b.status : Int) ≠ 3) && decide ((b.wher : Int) ≠ 0)) || (decide ((b.status : Int) = 1) != decide (((b.frames.length : Int) : Int) = 0))) then some 4 else bif decide ((10 : Int) < (b.frames.length : Int)) then some 2 else bif decide (((cell_CheckAll b.cells) : Int) ≠ 0) then some (cell_CheckAll b.cells) else eachI (vm_check_b35 a b) vm_check_k36 0 b.frames ()
theorem vm_check_c (w0 : World) (M : BS) (hM : ∀ b, M b → b < w0.heap.size) (va : Value) (a : List Proc) (ha : Rd2 rProc w0 BE M va a) (b : LX.State) (vb0 vb1 : Value) (hb0 : Rd2 rFrame w0 BE M vb0 b.frames) (hb1 : Rd2 (rSl rVal) w0 BE M vb1 b.cells) (r : Int) (hs : vm_check a b = some r) :
    Calls Tryz.prog 64 #[va, (.agg #[vb0, vb1, (.int .i64 (b.status)), (.int .i64 (b.wher))])] w0 (fun e w' => Grow w0 w' ∧ e = .returned (.int .i64 r)) := by
 refine calls_start (args := [va, (.agg #[vb0, vb1, (.int .i64 (b.status)), (.int .i64 (b.wher))])]) Tryz.func64 rfl Tryz.ntmps64 (Nat.le_of_ble_eq_true rfl) ?_
 have h := SH.init hM
 replace h := h.argSr 1 ha none_own
 replace h := h.argSr 2 hb0 (hupd_own_sr none_own)
 replace h := h.argSr 3 hb1 (hupd_own_sr (hupd_own_sr none_own))
 have hl_a := ha.len_le
 refine wc_seq (wc_region (w_box (cs := [vb0, vb1, (.int .i64 (b.status)), (.int .i64 (b.wher))]) h 4 rfl rfl fun w b1 h => wl_ok (r_assign (v := (.int .i64 (0))) rfl) (wl_nil (then_normal (wc_seq (wc_seq (wc_region (wl_ok (r_fieldAddr Fld26x2 rfl) (wl_ok (r_ldB h 4 rfl One3 rfl rfl) (wl_ok (r_lss rfl rfl) (wl_ok (r_move (v := (.bool (decide ((b.status : Int) < 0)))) rfl) (wl_gd0 rfl rfl (fun q => r_fieldAddr Fld26x2 rfl) (wl_gd0 rfl rfl (fun q => r_ldB h 4 rfl One3 (gvt q) rfl) (wl_gd0 rfl rfl (fun q => r_gtr (gvt q) rfl) (wl_ok (r_por rfl rfl evc) (wl_ok (r_move (v := (.bool ((decide ((b.status : Int) < 0) || decide ((3 : Int) < b.status))))) rfl) (wl_gd0 rfl rfl (fun q => r_fieldAddr Fld26x3 rfl) (wl_gd0 rfl rfl (fun q => r_ldB h 4 rfl One3 (gvt q) rfl) (wl_gd0 rfl rfl (fun q => r_lss (gvt q) rfl) (wl_ok (r_por rfl rfl evc) (wl_ok (r_move (v := (.bool (((decide ((b.status : Int) < 0) || decide ((3 : Int) < b.status)) || decide ((b.wher : Int) < -1000000000))))) rfl) (wl_gd0 rfl rfl (fun q => r_fieldAddr Fld26x3 rfl) ?_))))))))))))))))))))))
 refine wl_gd0 rfl rfl (fun q => r_ldB h 4 rfl One3 (gvt q) rfl) (wl_gd0 rfl rfl (fun q => r_gtr (gvt q) rfl) (wl_ok (r_por rfl rfl evc) (wl_nil (then_normal (wc_ifb hs rfl (fun c2 hs => ?_) (fun c2 hs => ?_))))))
 ·
  refine wc_seq (wc_region (wl_ok (r_assign (v := (.int .i64 (3))) rfl) (wl_nil (then_normal (wc_ret (then_ret (fin1 (v := (.int .i64 (3))) Tryz.results64 rfl ?_)))))))
  obtain rfl := Option.some.inj hs
  exact ⟨h.grown, rfl⟩
 ·
  refine wc_skip (then_normal (wc_seq (wc_seq (wc_region (wl_ok (r_fieldAddr Fld26x2 rfl) (wl_ok (r_ldB h 4 rfl One3 rfl rfl) (wl_ok (r_neq rfl rfl) (wl_ok (r_move (v := (.bool (decide ((b.status : Int) ≠ 3)))) rfl) (wl_gd0 rfl rfl (fun q => r_fieldAddr Fld26x3 rfl) (wl_gd0 rfl rfl (fun q => r_ldB h 4 rfl One3 (gvt q) rfl) (wl_gd0 rfl rfl (fun q => r_neq (gvt q) rfl) (wl_ok (r_pand rfl rfl evc) (wl_ok (r_move (v := (.bool ((decide ((b.status : Int) ≠ 3) && decide ((b.wher : Int) ≠ 0))))) rfl) (wl_gd0 rfl rfl (fun q => r_fieldAddr Fld26x2 rfl) (wl_gd0 rfl rfl (fun q => r_ldB h 4 rfl One3 (gvt q) rfl) (wl_gd0 rfl rfl (fun q => r_eql (gvt q) rfl) (wl_gd0 rfl rfl (fun q => r_fieldAddr Fld26x0 rfl) (wl_gd0 rfl rfl (fun q => r_ldB h 4 rfl One23 (gvt q) rfl) (wl_gd0 rfl rfl (fun q => r_len SliceOf23 (gvt q) (h.srS 2 rfl)) (wl_gd0 rfl rfl (fun q => r_eql (gvt q) rfl) (wl_gd0 rfl rfl (fun q => r_neqb Tryz.underlying4 (gvt q) (gvt q)) (wl_ok (r_por rfl rfl evc) (wl_nil ?_)))))))))))))))))))))))
  refine then_normal (wc_ifb hs rfl (fun c3 hs => ?_) (fun c3 hs => ?_))
  ·
   refine wc_seq (wc_region (wl_ok (r_assign (v := (.int .i64 (4))) rfl) (wl_nil (then_normal (wc_ret (then_ret (fin1 (v := (.int .i64 (4))) Tryz.results64 rfl ?_)))))))
   obtain rfl := Option.some.inj hs
   exact ⟨h.grown, rfl⟩
  ·
   refine wc_skip (then_normal (wc_seq (wc_seq (wc_region (wl_ok (r_fieldAddr Fld26x0 rfl) (wl_ok (r_ldB h 4 rfl One23 rfl rfl) (wl_ok (r_len SliceOf23 rfl (h.srS 2 rfl)) (wl_ok (r_gtr rfl rfl) (wl_nil (then_normal (wc_ifb hs rfl (fun c4 hs => ?_) (fun c4 hs => ?_))))))))))))
   ·
    refine wc_seq (wc_region (wl_ok (r_assign (v := (.int .i64 (2))) rfl) (wl_nil (then_normal (wc_ret (then_ret (fin1 (v := (.int .i64 (2))) Tryz.results64 rfl ?_)))))))
    obtain rfl := Option.some.inj hs
    exact ⟨h.grown, rfl⟩
   ·
    refine wc_skip (then_normal (wc_seq (wc_seq (wc_region (wl_ok (r_fieldAddr Fld26x1 rfl) (wl_ok (r_ldB h 4 rfl One24 rfl rfl) (w_call fnOk80 rfl rfl (cell_CheckAll_c _ _ h.lt vb1 b.cells (h.srS 3 rfl) _ rfl) ?_)))))))
    rintro _ w ⟨k5, rfl⟩
    refine ⟨_, rfl, ?_⟩
    replace h := h.grow k5
    refine wl_ok (r_assign (v := (.int .i64 ((cell_CheckAll b.cells)))) rfl) (wl_nil (then_normal (wc_seq (wc_region (wl_ok (r_move (v := (.int .i64 ((cell_CheckAll b.cells)))) rfl) (wl_ok (r_neq rfl rfl) (wl_nil (then_normal (wc_ifb hs rfl (fun c6 hs => ?_) (fun c6 hs => ?_))))))))))
    ·
     refine wc_seq (wc_region (wl_ok (r_move (v := (.int .i64 ((cell_CheckAll b.cells)))) rfl) (wl_ok (r_assign (v := (.int .i64 ((cell_CheckAll b.cells)))) rfl) (wl_nil (then_normal (wc_ret (then_ret (fin1 (v := (.int .i64 ((cell_CheckAll b.cells)))) Tryz.results64 rfl ?_))))))))
     obtain rfl := Option.some.inj hs
     exact ⟨h.grown, rfl⟩
    ·
     refine wc_skip (then_normal (wc_seq (wc_seq (wc_region (wl_ok (r_fieldAddr Fld26x0 rfl) (wl_ok (r_ldB h 4 rfl One23 rfl rfl) (wl_ok (r_len SliceOf23 rfl (h.srS 2 rfl)) (wl_ok (r_move (v := (.int .i64 (0))) rfl) (wl_nil (then_normal (wc_block (wc_lp (σ := Nat × Int) (inl [4, 6, 7, 8, 10, 11, 61, 62, 63, 64, 65, 66, 67, 68, 69, 70, 71, 72, 73, 74, 75, 76, 77, 78, 79, 80, 81, 82, 83, 84, 85, 86, 87, 88, 89, 90, 91, 92, 93, 94, 95, 96, 97, 98, 99, 100, 101, 102, 103, 104, 105, 106, 107, 108, 109, 110, 111, 112, 113, 114, 115, 116, 117, 118, 119, 120, 121, 122, 123, 124, 125, 126, 127, 128, 129, 130, 131, 132, 133, 134, 135, 136, 137, 138, 139, 140, 141, 142, 143, 144, 145]) (fun ⟨k7, i8⟩ => [(61, (.int .i64 (i8)))]) (fun ⟨k7, i8⟩ w => SH w0 M BE w (hset [(1, .sr rProc va a), (2, .sr rFrame vb0 b.frames), (3, .sr (rSl rVal) vb1 b.cells), (4, .blk b1 [vb0, vb1, (.int .i64 (b.status)), (.int .i64 (b.wher))])]) ∧ i8 = (k7 : Int) ∧ eachI (vm_check_b35 a b) vm_check_k36 i8 (b.frames.drop k7) () = some r) (fun ⟨k7, i8⟩ => b.frames.length - k7) ⟨0, 0⟩ ⟨rfl, trivial⟩ ?_ ?_))))))))))))
     ·
      exact ⟨h.cn _, rfl, hs⟩
     ·
      rintro ⟨k7, i8⟩ w junk ⟨h, hik, hs⟩
      refine wc_seq (wc_region ?_)
      refine wl_ok (r_lss rfl rfl) (wl_nil (then_normal ?_))
      refine wc_seq (wc_if rfl (fun e12 => ?_) (fun e12 => ?_))
      ·
       refine wc_skip (then_normal ?_)
       obtain ⟨x9, e13a, e13b⟩ := drop_lt (hik ▸ e12)
       rw [e13b, eachI_cons] at hs
       generalize hnx11 : eachI (vm_check_b35 a b) vm_check_k36 (i8 + 1) (b.frames.drop (k7 + 1)) = nx11 at hs
       have e13r := nat_rng ((h.srS 2 rfl)).len_le hik e12
       refine wc_seq (wc_block (wc_seq (wc_region (wl_ok (r_move (v := (.int .i64 (i8))) rfl) ?_))))
       obtain ⟨b15, o16, cs17, h, r18, i14⟩ := h.ixS 2 5 rfl SliceOf23 rfl (nat_nn hik) (get_nat hik e13a)
       obtain ⟨u19, rfl, g20⟩ := rFrame_open r18
       replace h := h.knowRd 6 g20.up
       refine wl_ok (i14 _ _ _ _ _ _ _ _ _ rfl rfl) (wl_ok (r_ldPN (k := 0) (vs := [(.int .i64 (x9.proc)), (.int .i64 (x9.at_)), u19, (.int .i64 (x9.to_))]) h 5 rfl Many49 rfl rfl rfl (Nat.le_of_ble_eq_true rfl)) (w_allocN h 7 Many49 fun w b21 h => wl_ok (r_assign (v := (.int .i64 (i8))) rfl) (w_stN (vs := [(.int .i64 (x9.proc)), (.int .i64 (x9.at_)), u19, (.int .i64 (x9.to_))]) h 7 [(.int .i64 (x9.proc)), (.int .i64 (x9.at_)), u19, (.int .i64 (x9.to_))] rfl Many49 rfl rfl rfl rfl rfl (ones_cons rfl (ones_cons rfl (ones_cons (h.rdAt 6 rfl).one (ones_cons rfl ones_nil)))) fun w h => wl_nil (then_normal (wc_seq (wc_seq (wc_region (wl_ok (r_fieldAddr Fld49x0 rfl) (wl_ok (r_ldB h 7 rfl One3 rfl rfl) (wl_ok (r_lss rfl rfl) (wl_ok (r_move (v := (.bool (decide ((x9.proc : Int) < 0)))) rfl) (wl_gd0 rfl rfl (fun q => r_fieldAddr Fld49x0 rfl) (wl_gd0 rfl rfl (fun q => r_ldB h 7 rfl One3 (gvt q) rfl) (wl_gd0 rfl rfl (fun q => r_move (v := va) rfl) (wl_gd0 rfl rfl (fun q => r_len SliceOf22 (gvt q) (h.srS 1 rfl)) (wl_gd0 rfl rfl (fun q => r_geq (gvt q) (gvt q)) (wl_ok (r_por rfl rfl evc) (wl_nil (then_normal (wc_ifb hs rfl (fun c22 hs => ?_) (fun c22 hs => ?_)))))))))))))))))))))
       ·
        refine wc_seq (wc_region (wl_ok (r_assign (v := (.int .i64 (5))) rfl) (wl_nil (then_normal (wc_ret (then_ret (inBlock_ret (then_ret (then_ret (inBlock_ret (then_ret (fin1 (v := (.int .i64 (5))) Tryz.results64 rfl ?_))))))))))))
        obtain rfl := Option.some.inj hs
        exact ⟨h.grown, rfl⟩
       ·
        refine wc_skip (then_normal (wc_seq (wc_region (wl_ok (r_move (v := va) rfl) (wl_ok (r_fieldAddr Fld49x0 rfl) (wl_ok (r_ldB h 7 rfl One3 rfl rfl) ?_))))))
        obtain ⟨x23, e24, hs⟩ := o_bind hs
        obtain ⟨b26, o27, cs28, h, r29, i25⟩ := h.ixS 1 8 rfl SliceOf22 rfl (o_idx e24).1 (o_idx e24).2
        obtain ⟨u30, rfl, g31⟩ := rProc_open r29
        replace h := h.knowRd 9 g31.up
        refine wl_ok (i25 _ _ _ _ _ _ _ _ _ rfl rfl) (wl_ok (r_ldPN (k := 0) (vs := [(.int .i64 (x23.params)), (.int .i64 (x23.regs)), u30]) h 8 rfl Many57 rfl rfl rfl (Nat.le_of_ble_eq_true rfl)) (w_allocN h 10 Many57 fun w b32 h => w_stN (vs := [(.int .i64 (x23.params)), (.int .i64 (x23.regs)), u30]) h 10 [(.int .i64 (x23.params)), (.int .i64 (x23.regs)), u30] rfl Many57 rfl rfl rfl rfl rfl (ones_cons rfl (ones_cons rfl (ones_cons (h.rdAt 9 rfl).one ones_nil))) fun w h => wl_nil (then_normal (wc_seq (wc_join (σ := Bool) (inl [81, 82, 83, 84, 85, 86, 87, 88, 89, 90, 91, 92, 93, 94, 95, 96, 97, 98, 99, 100, 101, 102, 103, 104, 105, 106, 107, 108, 109, 110, 111, 112, 113, 114, 115, 116, 117, 118, 119, 120, 121, 122]) (fun x33 => [(98, (gv (((decide ((x9.at_ : Int) < 0) || decide (((x23.code.length : Int) : Int) ≤ x9.at_)) || decide ((x9.to_ : Int) < 0)) == false) (.int .i64 (i8)))), (100, (gv (((decide ((x9.at_ : Int) < 0) || decide (((x23.code.length : Int) : Int) ≤ x9.at_)) || decide ((x9.to_ : Int) < 0)) == false) (.bool (decide ((i8 : Int) = 0))))), (122, (.bool (x33)))]) (fun x33 w => SH w0 M BE w (hset [(1, .sr rProc va a), (2, .sr rFrame vb0 b.frames), (3, .sr (rSl rVal) vb1 b.cells), (4, .blk b1 [vb0, vb1, (.int .i64 (b.status)), (.int .i64 (b.wher))]), (6, .rd rVal u19 x9.regs), (7, .blk b21 [(.int .i64 (x9.proc)), (.int .i64 (x9.at_)), u19, (.int .i64 (x9.to_))]), (9, .rd rIns u30 x23.code), (10, .blk b32 [(.int .i64 (x23.params)), (.int .i64 (x23.regs)), u30])]) ∧ vm_check_j32 x9 x23 b nx11 x33 = some r) ?_ ?_)))))
        ·
         rintro x33 w junk ⟨h, hs⟩
         refine wc_ifb hs rfl (fun c34 hs => ?_) (fun c34 hs => ?_)
         ·
          refine wc_seq (wc_region (wl_ok (r_assign (v := (.int .i64 (3))) rfl) (wl_nil (then_normal (wc_ret (then_ret (inBlock_ret (then_ret (then_ret (inBlock_ret (then_ret (fin1 (v := (.int .i64 (3))) Tryz.results64 rfl ?_))))))))))))
          obtain rfl := Option.some.inj hs
          exact ⟨h.grown, rfl⟩
         ·
          refine wc_skip (then_normal (wc_seq (wc_seq (wc_region (wl_ok (r_fieldAddr Fld49x2 rfl) (wl_ok (r_ldB h 7 rfl One47 rfl rfl) (wl_ok (r_len SliceOf47 rfl (h.rdS 6 rfl)) (wl_ok (r_fieldAddr Fld57x1 rfl) (wl_ok (r_ldB h 10 rfl One3 rfl rfl) (wl_ok (r_neq rfl rfl) (wl_nil (then_normal (wc_ifb hs rfl (fun c35 hs => ?_) (fun c35 hs => ?_))))))))))))))
          ·
           refine wc_seq (wc_region (wl_ok (r_assign (v := (.int .i64 (4))) rfl) (wl_nil (then_normal (wc_ret (then_ret (inBlock_ret (then_ret (then_ret (inBlock_ret (then_ret (fin1 (v := (.int .i64 (4))) Tryz.results64 rfl ?_))))))))))))
           obtain rfl := Option.some.inj hs
           exact ⟨h.grown, rfl⟩
          ·
           refine wc_skip (then_normal (wc_seq (wc_region (wl_ok (r_fieldAddr Fld49x2 rfl) (wl_ok (r_ldB h 7 rfl One47 rfl rfl) (wl_ok (r_len SliceOf47 rfl (h.rdS 6 rfl)) (wl_ok (r_move (v := (.int .i64 (0))) rfl) (wl_nil (then_normal (wc_block (wc_lp (σ := Nat × Int) (inl [4, 10, 11, 132, 133, 134, 135, 136, 137, 138, 139, 140, 141, 142, 143, 144]) (fun ⟨k36, i37⟩ => [(132, (.int .i64 (i37)))]) (fun ⟨k36, i37⟩ w => SH w0 M BE w (hset [(1, .sr rProc va a), (2, .sr rFrame vb0 b.frames), (3, .sr (rSl rVal) vb1 b.cells), (4, .blk b1 [vb0, vb1, (.int .i64 (b.status)), (.int .i64 (b.wher))]), (6, .rd rVal u19 x9.regs)]) ∧ i37 = (k36 : Int) ∧ each (vm_check_b33 b) (vm_check_k34 nx11) (x9.regs.drop k36) () = some r) (fun ⟨k36, i37⟩ => x9.regs.length - k36) ⟨0, 0⟩ ⟨rfl, trivial⟩ ?_ ?_)))))))))))
           ·
            exact ⟨h.cn _, rfl, hs⟩
           ·
            rintro ⟨k36, i37⟩ w junk ⟨h, hik, hs⟩
            refine wc_seq (wc_region ?_)
            refine wl_ok (r_lss rfl rfl) (wl_nil (then_normal ?_))
            refine wc_seq (wc_if rfl (fun e41 => ?_) (fun e41 => ?_))
            ·
             refine wc_skip (then_normal ?_)
             obtain ⟨x38, e42a, e42b⟩ := drop_lt (hik ▸ e41)
             rw [e42b, each_cons] at hs
             generalize hnx40 : each (vm_check_b33 b) (vm_check_k34 nx11) (x9.regs.drop (k36 + 1)) = nx40 at hs
             have e42r := nat_rng ((h.rdS 6 rfl)).len_le hik e41
             refine wc_seq (wc_block (wc_seq (wc_region ?_)))
             obtain ⟨b44, o45, cs46, h, r47, i43⟩ := h.ixR 6 11 rfl SliceOf47 rfl (nat_nn hik) (get_nat hik e42a)
             obtain rfl := r47
             refine wl_ok (i43 _ _ _ _ _ _ _ _ _ rfl rfl) (wl_ok (r_ldPN (k := 0) (vs := [(.int .i64 (x38.kind)), (.int .i64 (x38.n))]) h 11 rfl Many51 rfl rfl rfl (Nat.le_of_ble_eq_true rfl)) (w_allocN h 12 Many51 fun w b48 h => w_stN (vs := [(.int .i64 (x38.kind)), (.int .i64 (x38.n))]) h 12 [(.int .i64 (x38.kind)), (.int .i64 (x38.n))] rfl Many51 rfl rfl rfl rfl rfl (ones_cons rfl (ones_cons rfl ones_nil)) fun w h => wl_nil (then_normal (wc_seq (wc_region (wl_ok (r_ldBN (vs := [(.int .i64 (x38.kind)), (.int .i64 (x38.n))]) h 12 rfl Many51 rfl rfl rfl) (wl_ok (r_fieldAddr Fld26x1 rfl) (wl_ok (r_ldB h 4 rfl One24 rfl rfl) (wl_ok (r_len SliceOf24 rfl (h.srS 3 rfl)) (w_call fnOk81 rfl rfl (cell_Check_c _ _ h.lt x38 (b.cells.length : Int) _ rfl) ?_))))))))))
             rintro _ w ⟨k49, rfl⟩
             refine ⟨_, rfl, ?_⟩
             replace h := h.grow k49
             refine wl_ok (r_assign (v := (.int .i64 ((cell_Check x38 (b.cells.length : Int))))) rfl) (wl_nil (then_normal (wc_seq (wc_region (wl_ok (r_move (v := (.int .i64 ((cell_Check x38 (b.cells.length : Int))))) rfl) (wl_ok (r_neq rfl rfl) (wl_nil (then_normal (wc_ifb hs rfl (fun c50 hs => ?_) (fun c50 hs => ?_))))))))))
             ·
              refine wc_seq (wc_region (wl_ok (r_move (v := (.int .i64 ((cell_Check x38 (b.cells.length : Int))))) rfl) (wl_ok (r_assign (v := (.int .i64 ((cell_Check x38 (b.cells.length : Int))))) rfl) (wl_nil (then_normal (wc_ret (inBlock_ret (then_ret (then_ret (inBlock_ret (inBlock_ret (then_ret (then_ret (inBlock_ret (then_ret (fin1 (v := (.int .i64 ((cell_Check x38 (b.cells.length : Int))))) Tryz.results64 rfl ?_))))))))))))))))
              obtain rfl := Option.some.inj hs
              exact ⟨h.grown, rfl⟩
             ·
              refine wc_skip (inBlock_normal (then_normal (wc_region (wl_ok (r_add rfl rfl e42r) (wl_ok (r_move (v := (.int .i64 ((i37 + 1)))) rfl) (wl_nil (then_loop ?_)))))))
              subst hnx40
              exact lend ⟨k36 + 1, i37 + 1⟩ ⟨h.cn _, by omega, hs⟩ (by have := of_decide_eq_true e41; dsimp only; omega)
            ·
             rw [drop_ge (hik ▸ e41), each_nil] at hs
             refine wc_exit (then_exit (then_exit (inBlock_eq (inBlock_normal (then_normal (wc_region (wl_ok (r_add rfl rfl e13r) (wl_ok (r_move (v := (.int .i64 ((i8 + 1)))) rfl) (wl_nil (then_loop ?_))))))))))
             subst hnx11
             exact lend ⟨k7 + 1, i8 + 1⟩ ⟨h.cn _, by omega, hs⟩ (by have := of_decide_eq_true e12; dsimp only; omega)
        ·
         refine wc_still mixed (by kernel_rfl) h fun w h => wk_ok (r_fieldAddr Fld49x1 rfl) (wk_ok (r_ldB h 7 rfl One3 rfl rfl) (wk_ok (r_lss rfl rfl) (wk_ok (r_move (v := (.bool (decide ((x9.at_ : Int) < 0)))) rfl) (wk_gd0 rfl rfl (fun q => r_fieldAddr Fld49x1 rfl) (wk_gd0 rfl rfl (fun q => r_ldB h 7 rfl One3 (gvt q) rfl) (wk_gd0 rfl rfl (fun q => r_fieldAddr Fld57x2 rfl) (wk_gd0 rfl rfl (fun q => r_ldB h 10 rfl One55 (gvt q) rfl) (wk_gd0 rfl rfl (fun q => r_len SliceOf55 (gvt q) (h.rdS 9 rfl)) (wk_gd0 rfl rfl (fun q => r_geq (gvt q) (gvt q)) (wk_ok (r_por rfl rfl evc) (wk_ok (r_move (v := (.bool ((decide ((x9.at_ : Int) < 0) || decide (((x23.code.length : Int) : Int) ≤ x9.at_))))) rfl) (wk_gd0 rfl rfl (fun q => r_fieldAddr Fld49x3 rfl) (wk_gd0 rfl rfl (fun q => r_ldB h 7 rfl One3 (gvt q) rfl) (wk_gd0 rfl rfl (fun q => r_lss (gvt q) rfl) (wk_ok (r_por rfl rfl evc) (wk_ok (r_move (v := (.bool (((decide ((x9.at_ : Int) < 0) || decide (((x23.code.length : Int) : Int) ≤ x9.at_)) || decide ((x9.to_ : Int) < 0))))) rfl) (wk_gd0 rfl rfl (fun q => r_move (v := (.int .i64 (i8))) rfl) (wk_gd0 rfl rfl (fun q => r_eql (gvt q) rfl) (wk_gd0 rfl rfl (fun q => r_move (v := (.bool (decide ((i8 : Int) = 0)))) (gvt q)) (wk_gd (((decide ((x9.at_ : Int) < 0) || decide (((x23.code.length : Int) : Int) ≤ x9.at_)) || decide ((x9.to_ : Int) < 0)) == false) rfl rfl (fun q => r_fieldAddr Fld49x3 rfl) (wk_gd (((decide ((x9.at_ : Int) < 0) || decide (((x23.code.length : Int) : Int) ≤ x9.at_)) || decide ((x9.to_ : Int) < 0)) == false) rfl rfl (fun q => r_ldB h 7 rfl One3 (gvt q) rfl) (wk_gd (((decide ((x9.at_ : Int) < 0) || decide (((x23.code.length : Int) : Int) ≤ x9.at_)) || decide ((x9.to_ : Int) < 0)) == false) rfl rfl (fun q => r_neq (gvt q) rfl) ?_))))))))))))))))))))))
         refine wk_gd0 rfl rfl (fun q => r_pand (gvt q) (gvn q) evc) (wk_ok (r_por rfl rfl evc) (wk_ok (r_move (v := (.bool ((((decide ((x9.at_ : Int) < 0) || decide (((x23.code.length : Int) : Int) ≤ x9.at_)) || decide ((x9.to_ : Int) < 0)) || (decide ((i8 : Int) = 0) && decide ((x9.to_ : Int) ≠ 0)))))) rfl) (c_split (b := (((decide ((x9.at_ : Int) < 0) || decide (((x23.code.length : Int) : Int) ≤ x9.at_)) || decide ((x9.to_ : Int) < 0)) || (decide ((i8 : Int) = 0) && decide ((x9.to_ : Int) ≠ 0)))) hs (fun c51 hs => ?_) (fun c51 hs => ?_))))
         ·
          refine wk_off (b' := true) rfl (congrArg Value.bool c51) rfl (wk_off (b' := true) rfl (congrArg Value.bool c51) rfl (wk_off (b' := true) rfl (congrArg Value.bool c51) rfl (wk_offU rfl rfl (wk_offU rfl rfl (wk_offU rfl rfl (wk_offU rfl rfl (wk_offU rfl rfl (wk_offU rfl rfl (wk_offU rfl rfl (wk_offU rfl rfl (wk_offU rfl rfl (wk_offU rfl rfl (wk_offU rfl rfl (wk_off (b' := true) rfl (congrArg Value.bool c51) rfl (wk_ok (r_pick (b := true) (v := (.bool (true))) (congrArg Value.bool c51) rfl) (wk_end (then_loop ?_)))))))))))))))))
          exact jend true ⟨h.cn _, hs⟩
         ·
          refine wk_on rfl (congrArg Value.bool c51) (wk_ok (r_move (v := (.int .i64 (i8))) rfl) (wk_on rfl (congrArg Value.bool c51) (wk_ok (r_gtr rfl rfl) (wk_on rfl (congrArg Value.bool c51) (wk_ok (r_move (v := (.bool (decide ((0 : Int) < i8)))) rfl) (c_split (b := decide ((0 : Int) < i8)) hs (fun c52 hs => ?_) (fun c52 hs => ?_)))))))
          ·
           refine wk_on rfl (congrArg Value.bool c52) (wk_ok (r_fieldAddr Fld49x3 rfl) (wk_on rfl (congrArg Value.bool c52) (wk_ok (r_ldB h 7 rfl One3 rfl rfl) (wk_on rfl (congrArg Value.bool c52) (wk_ok (r_fieldAddr Fld26x0 rfl) (wk_on rfl (congrArg Value.bool c52) (wk_ok (r_ldB h 4 rfl One23 rfl rfl) (wk_on rfl (congrArg Value.bool c52) (wk_ok (r_move (v := (.int .i64 (i8))) rfl) (wk_on rfl (congrArg Value.bool c52) ?_))))))))))
           obtain ⟨a53, hs⟩ := o_grd hs
           refine wk_ok (r_sub rfl rfl a53) (wk_on rfl (congrArg Value.bool c52) ?_)
           obtain ⟨x54, e55, hs⟩ := o_bind hs
           obtain ⟨b57, o58, cs59, h, r60, i56⟩ := h.ixS 2 13 rfl SliceOf23 rfl (o_idx e55).1 (o_idx e55).2
           obtain ⟨u61, rfl, g62⟩ := rFrame_open r60
           replace h := h.knowRd 14 g62.up
           refine wk_ok (i56 _ _ _ _ _ _ _ _ _ rfl rfl) (wk_on rfl (congrArg Value.bool c52) (wk_ok (r_fieldAddr Fld49x2 rfl) (wk_on rfl (congrArg Value.bool c52) (wk_ok (r_ldP (k := 2) h 13 rfl One47 rfl rfl) (wk_on rfl (congrArg Value.bool c52) (wk_ok (r_len SliceOf47 rfl (h.rdS 14 rfl)) (wk_on rfl (congrArg Value.bool c52) (wk_ok (r_geq rfl rfl) (wk_on rfl (congrArg Value.bool c51) (wk_ok (r_pick (b := true) (v := (.bool (decide (((x54.regs.length : Int) : Int) ≤ x9.to_)))) (congrArg Value.bool c52) rfl) (wk_ok (r_pick (b := false) (v := (.bool (decide (((x54.regs.length : Int) : Int) ≤ x9.to_)))) (congrArg Value.bool c51) rfl) (wk_end (then_loop ?_)))))))))))))
           exact jend (decide (((x54.regs.length : Int) : Int) ≤ x9.to_)) ⟨h.cn _, hs⟩
          ·
           refine wk_off (b' := false) rfl (congrArg Value.bool c52) rfl (wk_off (b' := false) rfl (congrArg Value.bool c52) rfl (wk_off (b' := false) rfl (congrArg Value.bool c52) rfl (wk_off (b' := false) rfl (congrArg Value.bool c52) rfl (wk_off (b' := false) rfl (congrArg Value.bool c52) rfl (wk_off (b' := false) rfl (congrArg Value.bool c52) rfl (wk_off (b' := false) rfl (congrArg Value.bool c52) rfl (wk_off (b' := false) rfl (congrArg Value.bool c52) rfl (wk_off (b' := false) rfl (congrArg Value.bool c52) rfl (wk_off (b' := false) rfl (congrArg Value.bool c52) rfl (wk_off (b' := false) rfl (congrArg Value.bool c52) rfl (wk_on rfl (congrArg Value.bool c51) (wk_ok (r_pick (b := false) (v := (.bool (false))) (congrArg Value.bool c52) rfl) (wk_ok (r_pick (b := false) (v := (.bool (false))) (congrArg Value.bool c51) rfl) (wk_end (then_loop ?_)))))))))))))))
           exact jend false ⟨h.cn _, hs⟩
      ·
       rw [drop_ge (hik ▸ e12), eachI_nil] at hs
       refine wc_exit (then_exit (then_exit (inBlock_eq (then_normal (wc_seq (wc_region (wl_ok (r_assign (v := (.int .i64 (0))) rfl) (wl_nil (then_normal (wc_ret (fin1 (v := (.int .i64 (0))) Tryz.results64 rfl ?_)))))))))))
       obtain rfl := Option.some.inj hs
       exact ⟨h.grown, rfl⟩
def vm_Check (a : List Proc) (b : LX.State) : Option Int :=
  (code_Check a).bind fun y2 => bif decide ((y2 : Int) ≠ 0) then some y2 else (vm_check a b).bind fun y6 => some y6
theorem vm_Check_c (w0 : World) (M : BS) (hM : ∀ b, M b → b < w0.heap.size) (va : Value) (a : List Proc) (ha : Rd2 rProc w0 BE M va a) (b : LX.State) (vb0 vb1 : Value) (hb0 : Rd2 rFrame w0 BE M vb0 b.frames) (hb1 : Rd2 (rSl rVal) w0 BE M vb1 b.cells) (r : Int) (hs : vm_Check a b = some r) :
    Calls Tryz.prog 27 #[va, (.agg #[vb0, vb1, (.int .i64 (b.status)), (.int .i64 (b.wher))])] w0 (fun e w' => Grow w0 w' ∧ e = .returned (.int .i64 r)) := by
 refine calls_start (args := [va, (.agg #[vb0, vb1, (.int .i64 (b.status)), (.int .i64 (b.wher))])]) Tryz.func27 rfl Tryz.ntmps27 (Nat.le_of_ble_eq_true rfl) ?_
 have h := SH.init hM
 replace h := h.argSr 1 ha none_own
 replace h := h.argSr 2 hb0 (hupd_own_sr none_own)
 replace h := h.argSr 3 hb1 (hupd_own_sr (hupd_own_sr none_own))
 have hl_a := ha.len_le
 refine wc_seq (wc_region (w_box (cs := [vb0, vb1, (.int .i64 (b.status)), (.int .i64 (b.wher))]) h 4 rfl rfl fun w b1 h => wl_ok (r_assign (v := (.int .i64 (0))) rfl) (wl_nil (then_normal (wc_seq (wc_seq (wc_region (wl_ok (r_move (v := va) rfl) ?_))))))))
 obtain ⟨y2, e3, hs⟩ := o_bind hs
 refine w_call fnOk63 rfl rfl (code_Check_c _ _ h.lt va a (h.srS 1 rfl) _ e3) ?_
 rintro _ w ⟨k4, rfl⟩
 refine ⟨_, rfl, ?_⟩
 replace h := h.grow k4
 refine wl_ok (r_assign (v := (.int .i64 (y2))) rfl) (wl_nil (then_normal (wc_seq (wc_region (wl_ok (r_move (v := (.int .i64 (y2))) rfl) (wl_ok (r_neq rfl rfl) (wl_nil (then_normal (wc_ifb hs rfl (fun c5 hs => ?_) (fun c5 hs => ?_))))))))))
 ·
  refine wc_seq (wc_region (wl_ok (r_move (v := (.int .i64 (y2))) rfl) (wl_ok (r_assign (v := (.int .i64 (y2))) rfl) (wl_nil (then_normal (wc_ret (then_ret (fin1 (v := (.int .i64 (y2))) Tryz.results27 rfl ?_))))))))
  obtain rfl := Option.some.inj hs
  exact ⟨h.grown, rfl⟩
 ·
  refine wc_skip (then_normal (wc_seq (wc_region (wl_ok (r_move (v := va) rfl) (wl_ok (r_ldBN (vs := [vb0, vb1, (.int .i64 (b.status)), (.int .i64 (b.wher))]) h 4 rfl Many26 rfl rfl rfl) ?_)))))
  obtain ⟨y6, e7, hs⟩ := o_bind hs
  refine w_call fnOk64 rfl rfl (vm_check_c _ _ h.lt va a (h.srS 1 rfl) b vb0 vb1 (h.srS 2 rfl) (h.srS 3 rfl) _ e7) ?_
  rintro _ w ⟨k8, rfl⟩
  refine ⟨_, rfl, ?_⟩
  replace h := h.grow k8
  refine wl_ok (r_assign (v := (.int .i64 (y6))) rfl) (wl_nil (then_normal (wc_ret (fin1 (v := (.int .i64 (y6))) Tryz.results27 rfl ?_))))
  obtain rfl := Option.some.inj hs
  exact ⟨h.grown, rfl⟩
theorem slices_Clone_Frame_c (w0 : World) (M : BS) (hM : ∀ b, M b → b < w0.heap.size) (va : Value) (a : List LX.Frame) (ha : Rd2 rFrame w0 BE M va a) (r : List LX.Frame) (hs : clone 48 a = some r) :
    Calls Tryz.prog 83 #[va] w0 (fun e w' => Grow w0 w' ∧ ∃ u0, e = .returned u0 ∧ OwnSl rFrame 49 w' M u0 r ∧ (∀ b, ob u0 b → w0.heap.size ≤ b)) := by
  obtain ⟨hr, hs⟩ := o_grd hs
  cases hs
  refine calls_start (args := [va]) Tryz.func83 rfl Tryz.ntmps83 (Nat.le_of_ble_eq_true rfl) ?_
  have h := (SH.init hM).argSr 1 ha none_own
  refine wc_seq (wc_region (wl_ok (r_assign rfl) (wl_nil (then_normal ?_))))
  refine wc_seq (wc_seq (wc_region (wl_ok (r_move rfl) (wl_ok (r_eqnil SliceOf23 rfl (h.srS 1 rfl) rfl) (wl_nil (then_normal ?_))))))
  refine wc_if rfl (fun c => ?_) (fun c => ?_)
  · obtain ⟨c1, c2⟩ := nil_of_isNil (h.srS 1 rfl) c
    refine wc_seq (wc_region (wl_ok (r_assign rfl) (wl_nil (then_normal (wc_ret (then_ret ?_))))))
    refine fin1 (v := .slice none 0 0) Tryz.results83 rfl ?_
    rw [c2]
    exact ⟨h.grown, _, rfl, OwnSl.nil, fresh_nil⟩
  · refine wc_skip (then_normal ?_)
    refine wc_seq (wc_region ?_)
    refine w_bs (R := rFrame) (vs := []) (xs := []) h 2 ElemOf23 rfl rfl rfl trivial rfl fun w u h => ?_
    refine wl_ok (r_move rfl) ?_
    refine w_app (R := rFrame) (m := a) h 2 rfl (h.srS 1 rfl) ElemOf23 rfl rfl rfl hr.1 hr.2 fun w u h => ?_
    refine wl_ok (r_assign rfl) (wl_nil (then_normal (wc_ret ?_)))
    refine fin1 (v := u) Tryz.results83 rfl ?_
    exact ⟨h.grown, _, rfl, (h.outOwn 2 rfl).1, (h.outOwn 2 rfl).2⟩
theorem slices_Clone_LValue_c (w0 : World) (M : BS) (hM : ∀ b, M b → b < w0.heap.size) (va : Value) (a : List (List Val)) (ha : Rd2 (rSl rVal) w0 BE M va a) (r : List (List Val)) (hs : clone 24 a = some r) :
    Calls Tryz.prog 114 #[va] w0 (fun e w' => Grow w0 w' ∧ ∃ u0, e = .returned u0 ∧ OwnSl (rSl rVal) 47 w' M u0 r ∧ (∀ b, ob u0 b → w0.heap.size ≤ b)) := by
  obtain ⟨hr, hs⟩ := o_grd hs
  cases hs
  refine calls_start (args := [va]) Tryz.func114 rfl Tryz.ntmps114 (Nat.le_of_ble_eq_true rfl) ?_
  have h := (SH.init hM).argSr 1 ha none_own
  refine wc_seq (wc_region (wl_ok (r_assign rfl) (wl_nil (then_normal ?_))))
  refine wc_seq (wc_seq (wc_region (wl_ok (r_move rfl) (wl_ok (r_eqnil SliceOf24 rfl (h.srS 1 rfl) rfl) (wl_nil (then_normal ?_))))))
  refine wc_if rfl (fun c => ?_) (fun c => ?_)
  · obtain ⟨c1, c2⟩ := nil_of_isNil (h.srS 1 rfl) c
    refine wc_seq (wc_region (wl_ok (r_assign rfl) (wl_nil (then_normal (wc_ret (then_ret ?_))))))
    refine fin1 (v := .slice none 0 0) Tryz.results114 rfl ?_
    rw [c2]
    exact ⟨h.grown, _, rfl, OwnSl.nil, fresh_nil⟩
  · refine wc_skip (then_normal ?_)
    refine wc_seq (wc_region ?_)
    refine w_bs (R := (rSl rVal)) (vs := []) (xs := []) h 2 ElemOf24 rfl rfl rfl trivial rfl fun w u h => ?_
    refine wl_ok (r_move rfl) ?_
    refine w_app (R := (rSl rVal)) (m := a) h 2 rfl (h.srS 1 rfl) ElemOf24 rfl rfl rfl hr.1 hr.2 fun w u h => ?_
    refine wl_ok (r_assign rfl) (wl_nil (then_normal (wc_ret ?_)))
    refine fin1 (v := u) Tryz.results114 rfl ?_
    exact ⟨h.grown, _, rfl, (h.outOwn 2 rfl).1, (h.outOwn 2 rfl).2⟩
theorem slices_Clone_Value_c (w0 : World) (M : BS) (hM : ∀ b, M b → b < w0.heap.size) (va : Value) (a : List Val) (ha : Rd2 rVal w0 BE M va a) (r : List Val) (hs : clone 16 a = some r) :
    Calls Tryz.prog 85 #[va] w0 (fun e w' => Grow w0 w' ∧ ∃ u0, e = .returned u0 ∧ OwnSl rVal 51 w' M u0 r ∧ (∀ b, ob u0 b → w0.heap.size ≤ b)) := by
  obtain ⟨hr, hs⟩ := o_grd hs
  cases hs
  refine calls_start (args := [va]) Tryz.func85 rfl Tryz.ntmps85 (Nat.le_of_ble_eq_true rfl) ?_
  have h := (SH.init hM).argSr 1 ha none_own
  refine wc_seq (wc_region (wl_ok (r_assign rfl) (wl_nil (then_normal ?_))))
  refine wc_seq (wc_seq (wc_region (wl_ok (r_move rfl) (wl_ok (r_eqnil SliceOf47 rfl (h.srS 1 rfl) rfl) (wl_nil (then_normal ?_))))))
  refine wc_if rfl (fun c => ?_) (fun c => ?_)
  · obtain ⟨c1, c2⟩ := nil_of_isNil (h.srS 1 rfl) c
    refine wc_seq (wc_region (wl_ok (r_assign rfl) (wl_nil (then_normal (wc_ret (then_ret ?_))))))
    refine fin1 (v := .slice none 0 0) Tryz.results85 rfl ?_
    rw [c2]
    exact ⟨h.grown, _, rfl, OwnSl.nil, fresh_nil⟩
  · refine wc_skip (then_normal ?_)
    refine wc_seq (wc_region ?_)
    refine w_bs (R := rVal) (vs := []) (xs := []) h 2 ElemOf47 rfl rfl rfl trivial rfl fun w u h => ?_
    refine wl_ok (r_move rfl) ?_
    refine w_app (R := rVal) (m := a) h 2 rfl (h.srS 1 rfl) ElemOf47 rfl rfl rfl hr.1 hr.2 fun w u h => ?_
    refine wl_ok (r_assign rfl) (wl_nil (then_normal (wc_ret ?_)))
    refine fin1 (v := u) Tryz.results85 rfl ?_
    exact ⟨h.grown, _, rfl, (h.outOwn 2 rfl).1, (h.outOwn 2 rfl).2⟩
def cell_Copy_b3 (a : List (List Val)) (i14 : Int) (s : Unit) (nx17 : Unit → Option (List (List Val))) : Option (List (List Val)) :=
  (idx a i14).bind fun x20 => (clone 16 x20).bind fun y31 => nx17 ()
def cell_Copy_k4 (a : List (List Val)) (s : Unit) : Option (List (List Val)) :=
  some a
def cell_Copy (a : List (List Val)) : Option (List (List Val)) :=
  (clone 24 a).bind fun y1 => upto (cell_Copy_b3 a) (cell_Copy_k4 a) 0 ((a.length : Int)).toNat ()
theorem cell_Copy_c (w0 : World) (M : BS) (hM : ∀ b, M b → b < w0.heap.size) (va : Value) (a : List (List Val)) (ha : Rd2 (rSl rVal) w0 BE M va a) (r : List (List Val)) (hs : cell_Copy a = some r) :
    Calls Tryz.prog 84 #[va] w0 (fun e w' => Grow w0 w' ∧ ∃ u0_0, ∃ w0_0, e = .returned (u0_0) ∧ Chunk.holds w' M (Chunk.own' ((.two (.own (nLst Val).raw 47 u0_0 (List.zip r w0_0)) (.pce (famS rVal 51 hn w0_0 (List.map (nLst Val).sub r)))) : Chunk)) ((.two (.own (nLst Val).raw 47 u0_0 (List.zip r w0_0)) (.pce (famS rVal 51 hn w0_0 (List.map (nLst Val).sub r)))) : Chunk) ∧ (∀ b, Chunk.own' ((.two (.own (nLst Val).raw 47 u0_0 (List.zip r w0_0)) (.pce (famS rVal 51 hn w0_0 (List.map (nLst Val).sub r)))) : Chunk) b → w0.heap.size ≤ b)) := by
 refine calls_start (args := [va]) Tryz.func84 rfl Tryz.ntmps84 (Nat.le_of_ble_eq_true rfl) ?_
 have h := SH.init hM
 replace h := h.argSr 1 ha none_own
 have hl_a := ha.len_le
 refine wc_seq (wc_region (wl_ok (r_assign (v := (.slice none 0 0)) rfl) (wl_nil (then_normal (wc_seq (wc_region (wl_ok (r_move (v := va) rfl) ?_)))))))
 obtain ⟨y1, e2, hs⟩ := o_bind hs
 have z3 := clone_eq e2
 subst z3
 refine w_call fnOk114 rfl rfl (slices_Clone_LValue_c _ _ h.lt va a (h.srS 1 rfl) _ e2) ?_
 rintro _ w ⟨k7, u4, rfl, g5, g6⟩
 refine ⟨_, rfl, ?_⟩
 replace h := h.gotOwn 2 k7 g5 g6
 obtain ⟨us8, -, h⟩ := h.thaw (N := (nLst Val)) (R := rVal) (Es := 51) 2 3 4 rfl (by decide) (by decide) (by decide) rfl nLst_op
 refine wl_ok (r_assign (v := u4) rfl) (wl_nil (then_normal (wc_seq (wc_seq (wc_region (wl_ok (r_move (v := u4) rfl) (wl_ok (r_lenZ (N := (nLst Val)) SliceOf24 rfl (h.ownS 2 rfl) (h.dnLen 3 rfl)) (wl_ok (r_move (v := (.int .i64 (0))) rfl) (wl_nil (then_normal (wc_block ?_)))))))))))
 have hli14 := (h.srS 1 rfl).len_le
 refine wc_lp (σ := Nat × Int × List Value) (inl [3, 4, 9, 10, 11, 12, 13, 14, 15, 16, 17, 18, 19]) (fun ⟨k13, i14, us12⟩ => [(9, (.int .i64 (i14)))]) (fun ⟨k13, i14, us12⟩ w => SH w0 M BE w (hset [(2, .own (nLst Val).raw 47 u4 (List.zip a us12)), (3, .pce (famS rVal 51 (hge (k13)) us12 (List.map (nLst Val).sub a))), (4, .pce (rdpS rVal (k13) us12 (List.map (nLst Val).sub a)))]) ∧ i14 = (k13 : Int) ∧ upto (cell_Copy_b3 a) (cell_Copy_k4 a) i14 (((a.length : Int)).toNat - k13) () = some r) (fun ⟨k13, i14, us12⟩ => ((a.length : Int)).toNat - k13) ⟨0, 0, us8⟩ ⟨rfl, trivial⟩ ?_ ?_
 ·
  exact ⟨h.cn _, rfl, hs⟩
 ·
  rintro ⟨k13, i14, us12⟩ w junk ⟨h, hik, hs⟩
  refine wc_seq (wc_region ?_)
  refine wl_ok (r_lss rfl rfl) (wl_nil (then_normal ?_))
  refine wc_seq (wc_if rfl (fun e18 => ?_) (fun e18 => ?_))
  ·
   refine wc_skip (then_normal ?_)
   rw [upto_lt (by have := of_decide_eq_true e18; omega)] at hs
   generalize hnx17 : upto (cell_Copy_b3 a) (cell_Copy_k4 a) (i14 + 1) (((a.length : Int)).toNat - (k13 + 1)) = nx17 at hs
   have e19r : I64 (i14 + 1) := (by have := of_decide_eq_true e18; have := hli14; exact I64.mk (by omega) (by omega))
   refine wc_seq (wc_block (wc_seq (wc_region (wl_ok (r_move (v := (.int .i64 (i14))) rfl) ?_))))
   obtain ⟨x20, e21, hs⟩ := o_bind hs
   obtain ⟨u25, e260, r27⟩ := h.rdpAtL 4 x20 rfl (h.dnLen 3 rfl) (pd_at hik (o_idx e21).2) rfl
   have e26 := at_pd hik e260
   replace h := h.knowRd 5 r27
   obtain ⟨b23, q24, i22⟩ := h.ixO 2 rfl SliceOf24 rfl (o_idx e21).1 (zip_at (o_idx e21).2 e26)
   refine wl_ok (i22 _ _ _ _ _ _ _ _ _ rfl rfl) ?_
   obtain ⟨cs28, m29, r30⟩ := h.elO 2 rfl q24 (zip_at (o_idx e21).2 e26)
   obtain ⟨rfl, -⟩ := r30
   refine wl_ok (r_ldA (k := 0) m29 One47 rfl rfl) (wl_ok (r_assign (v := (.int .i64 (i14))) rfl) (wl_ok (r_assign (v := u25) rfl) (wl_nil (then_normal (wc_region (wl_ok (r_move (v := u4) rfl) (wl_ok (r_move (v := (.int .i64 (i14))) rfl) (wl_ok (r_move (v := u25) rfl) ?_))))))))
   obtain ⟨y31, e32, hs⟩ := o_bind hs
   have z33 := clone_eq e32
   subst z33
   refine w_call fnOk85 rfl rfl (slices_Clone_Value_c _ _ h.lt u25 x20 (h.rdS 5 rfl) _ e32) ?_
   rintro _ w ⟨k37, u34, rfl, g35, g36⟩
   refine ⟨_, rfl, ?_⟩
   replace h := h.gotOwn 6 k37 g35 g36
   obtain ⟨b39, q40, i38⟩ := h.ixO 2 rfl SliceOf24 rfl (o_idx e21).1 (zip_at (o_idx e21).2 e26)
   refine wl_ok (i38 _ _ _ _ _ _ _ _ _ rfl rfl) ?_
   have o41 : (Value.oneCell' u34) = true := (h.ownAt 6 rfl).one
   refine w_stO (off := 0) (a' := (x20, u34)) h 2 rfl q40 rfl (zip_at (o_idx e21).2 e26) One47 rfl rfl o41 rfl (by rintro _ ⟨rfl, _⟩; exact ⟨rfl, o41⟩) fun w h => ?_
   rw [zip_setR (o_idx e21).2, pd_nat hik] at h
   replace h := h.pendPut0 3 4 6 rfl rfl rfl (by decide) (by decide) (by decide) (pd_at hik (o_idx e21).2) (pd_at hik e26) rfl
   generalize List.set us12 k13 u34 = us42 at h
   refine wl_nil (inBlock_normal (then_normal (wc_region (wl_ok (r_add rfl rfl e19r) (wl_ok (r_move (v := (.int .i64 ((i14 + 1)))) rfl) (wl_nil (then_loop ?_)))))))
   subst hnx17
   exact lend ⟨k13 + 1, i14 + 1, us42⟩ ⟨h.cn _, by omega, hs⟩ (by have := of_decide_eq_true e18; dsimp only; omega)
  ·
   rw [upto_ge (by have := of_decide_eq_false e18; omega)] at hs
   replace h := h.famAll 3 rfl (by have := of_decide_eq_false e18; omega)
   replace h := h.dropC 4
   refine wc_exit (then_exit (then_exit (inBlock_eq (then_normal (wc_seq (wc_region (wl_ok (r_move (v := u4) rfl) (wl_ok (r_assign (v := u4) rfl) (wl_nil (then_normal (wc_ret (fin1 (v := u4) Tryz.results84 rfl ?_))))))))))))
   replace h := h.pair 2 3 (by decide)
   obtain rfl := Option.some.inj hs
   obtain ⟨o1, o2, o3⟩ := h.outS 2 (C := (.two (.own (nLst Val).raw 47 u4 (List.zip a us12)) (.pce (famS rVal 51 hn us12 (List.map (nLst Val).sub a))) : Chunk)) rfl ⟨trivial, trivial⟩
   exact ⟨o2, u4, us12, rfl, o1, new_own o3⟩
def vm_Copy_b4 (a : LX.State) (i13 : Int) (s : Unit) (nx16 : Unit → Option LX.State) : Option LX.State :=
  (idx a.frames i13).bind fun x19 => (clone 16 x19.regs).bind fun yq34x5_1 => nx16 ()
def vm_Copy_k5 (a : LX.State) (y7 : List (List Val)) (s : Unit) : Option LX.State :=
  some (⟨a.frames, y7, a.status, a.wher⟩ : LX.State)
def vm_Copy_j1 (a : LX.State) (y7 : List (List Val)) : Option LX.State :=
  upto (vm_Copy_b4 a) (vm_Copy_k5 a y7) 0 ((a.frames.length : Int)).toNat ()
def vm_Copy (a : LX.State) : Option LX.State :=
  (clone 48 a.frames).bind fun yq42x2_1 => (cell_Copy a.cells).bind fun yq42x5_1 => vm_Copy_j1 a yq42x5_1
theorem vm_Copy_c (w0 : World) (M : BS) (hM : ∀ b, M b → b < w0.heap.size) (a : LX.State) (va0 va1 : Value) (ha0 : Rd2 rFrame w0 BE M va0 a.frames) (ha1 : Rd2 (rSl rVal) w0 BE M va1 a.cells) (r : LX.State) (hs : vm_Copy a = some r) :
    Calls Tryz.prog 49 #[(.agg #[va0, va1, (.int .i64 (a.status)), (.int .i64 (a.wher))])] w0 (fun e w' => Grow w0 w' ∧ ∃ u0_0, ∃ u0_1, ∃ w0_0, ∃ w0_1, e = .returned (.agg #[u0_0, u0_1, .int .i64 r.status, .int .i64 r.wher]) ∧ Chunk.holds w' M (Chunk.own' ((.two (.two (.two (.own nFrame.raw 49 u0_0 (List.zip r.frames w0_0)) (.pce (famS rVal 51 hn w0_0 (List.map nFrame.sub r.frames)))) (.own (nLst Val).raw 47 u0_1 (List.zip r.cells w0_1))) (.pce (famS rVal 51 hn w0_1 (List.map (nLst Val).sub r.cells)))) : Chunk)) ((.two (.two (.two (.own nFrame.raw 49 u0_0 (List.zip r.frames w0_0)) (.pce (famS rVal 51 hn w0_0 (List.map nFrame.sub r.frames)))) (.own (nLst Val).raw 47 u0_1 (List.zip r.cells w0_1))) (.pce (famS rVal 51 hn w0_1 (List.map (nLst Val).sub r.cells)))) : Chunk) ∧ (∀ b, Chunk.own' ((.two (.two (.two (.own nFrame.raw 49 u0_0 (List.zip r.frames w0_0)) (.pce (famS rVal 51 hn w0_0 (List.map nFrame.sub r.frames)))) (.own (nLst Val).raw 47 u0_1 (List.zip r.cells w0_1))) (.pce (famS rVal 51 hn w0_1 (List.map (nLst Val).sub r.cells)))) : Chunk) b → w0.heap.size ≤ b)) := by
 refine calls_start (args := [(.agg #[va0, va1, (.int .i64 (a.status)), (.int .i64 (a.wher))])]) Tryz.func49 rfl Tryz.ntmps49 (Nat.le_of_ble_eq_true rfl) ?_
 have h := SH.init hM
 replace h := h.argSr 1 ha0 none_own
 replace h := h.argSr 2 ha1 (hupd_own_sr none_own)
 refine wc_seq (wc_region (w_box (cs := [va0, va1, (.int .i64 (a.status)), (.int .i64 (a.wher))]) h 3 rfl rfl fun w b1 h => w_allocN h 4 Many26 fun w b2 h => wl_nil (then_normal (wc_join (σ := Value × List Value × Value × List Value × List (List Val)) (inl [5, 6, 7, 8, 9, 10, 11, 12]) (fun ⟨v3, us4, v5, us6, y7⟩ => []) (fun ⟨v3, us4, v5, us6, y7⟩ w => SH w0 M BE w (hset [(3, .blk b1 [v3, v5, (.int .i64 (a.status)), (.int .i64 (a.wher))]), (4, .blk b2 [(.slice none 0 0), (.slice none 0 0), (.int .i64 (0)), (.int .i64 (0))]), (29, .own nFrame.raw 49 v3 (List.zip a.frames us4)), (30, .pce (famS rVal 51 (hge (0)) us4 (List.map nFrame.sub a.frames))), (31, .pce (rdpS rVal (0) us4 (List.map nFrame.sub a.frames))), (65, .own (nLst Val).raw 47 v5 (List.zip y7 us6)), (66, .pce (famS rVal 51 hn us6 (List.map (nLst Val).sub y7)))]) ∧ vm_Copy_j1 a y7 = some r) ?_ ?_))))
 ·
  rintro ⟨v3, us4, v5, us6, y7⟩ w junk ⟨h, hs⟩
  refine wc_seq (wc_seq (wc_region (wl_ok (r_fieldAddr Fld26x0 rfl) (wl_ok (r_ldB h 3 rfl One23 rfl rfl) (wl_ok (r_lenZ (N := nFrame) SliceOf23 rfl (h.ownS 29 rfl) (h.dnLen 30 rfl)) (wl_ok (r_move (v := (.int .i64 (0))) rfl) (wl_nil (then_normal (wc_block ?_)))))))))
  have hli13 := zip_le (h.ownS 29 rfl) (h.dnLen 30 rfl)
  refine wc_lp (σ := Nat × Int × List Value) (inl [3, 4, 16, 17, 18, 19, 20, 21, 22, 23, 24, 25, 26, 27, 28, 29]) (fun ⟨k12, i13, us11⟩ => [(16, (.int .i64 (i13)))]) (fun ⟨k12, i13, us11⟩ w => SH w0 M BE w (hset [(3, .blk b1 [v3, v5, (.int .i64 (a.status)), (.int .i64 (a.wher))]), (4, .blk b2 [(.slice none 0 0), (.slice none 0 0), (.int .i64 (0)), (.int .i64 (0))]), (29, .own nFrame.raw 49 v3 (List.zip a.frames us11)), (30, .pce (famS rVal 51 (hge (k12)) us11 (List.map nFrame.sub a.frames))), (31, .pce (rdpS rVal (k12) us11 (List.map nFrame.sub a.frames))), (65, .own (nLst Val).raw 47 v5 (List.zip y7 us6)), (66, .pce (famS rVal 51 hn us6 (List.map (nLst Val).sub y7)))]) ∧ i13 = (k12 : Int) ∧ upto (vm_Copy_b4 a) (vm_Copy_k5 a y7) i13 (((a.frames.length : Int)).toNat - k12) () = some r) (fun ⟨k12, i13, us11⟩ => ((a.frames.length : Int)).toNat - k12) ⟨0, 0, us4⟩ ⟨rfl, trivial⟩ ?_ ?_
  ·
   exact ⟨h.cn _, rfl, hs⟩
  ·
   rintro ⟨k12, i13, us11⟩ w junk ⟨h, hik, hs⟩
   refine wc_seq (wc_region ?_)
   refine wl_ok (r_lss rfl rfl) (wl_nil (then_normal ?_))
   refine wc_seq (wc_if rfl (fun e17 => ?_) (fun e17 => ?_))
   ·
    refine wc_skip (then_normal ?_)
    rw [upto_lt (by have := of_decide_eq_true e17; omega)] at hs
    generalize hnx16 : upto (vm_Copy_b4 a) (vm_Copy_k5 a y7) (i13 + 1) (((a.frames.length : Int)).toNat - (k12 + 1)) = nx16 at hs
    have e18r : I64 (i13 + 1) := (by have := of_decide_eq_true e17; have := hli13; exact I64.mk (by omega) (by omega))
    refine wc_seq (wc_block (wc_seq (wc_region (wl_ok (r_move (v := (.int .i64 (i13))) rfl) ?_))))
    obtain ⟨x19, e20, hs⟩ := o_bind hs
    obtain ⟨u24, e250, r26⟩ := h.rdpAtL 31 x19.regs rfl (h.dnLen 30 rfl) (pd_at hik (o_idx e20).2) rfl
    have e25 := at_pd hik e250
    replace h := h.knowRd 67 r26
    obtain ⟨b22, q23, i21⟩ := h.ixO 29 rfl SliceOf23 rfl (o_idx e20).1 (zip_at (o_idx e20).2 e25)
    refine wl_ok (i21 _ _ _ _ _ _ _ _ _ rfl rfl) ?_
    obtain ⟨cs27, m28, r29⟩ := h.elO 29 rfl q23 (zip_at (o_idx e20).2 e25)
    obtain ⟨rfl, -⟩ := r29
    refine wl_ok (r_ldAN (k := 0) (vs := [(.int .i64 (x19.proc)), (.int .i64 (x19.at_)), u24, (.int .i64 (x19.to_))]) m28 Many49 rfl rfl rfl (Nat.le_of_ble_eq_true rfl)) (w_allocN h 68 Many49 fun w b30 h => wl_ok (r_assign (v := (.int .i64 (i13))) rfl) (w_stN (vs := [(.int .i64 (x19.proc)), (.int .i64 (x19.at_)), u24, (.int .i64 (x19.to_))]) h 68 [(.int .i64 (x19.proc)), (.int .i64 (x19.at_)), u24, (.int .i64 (x19.to_))] rfl Many49 rfl rfl rfl rfl rfl (ones_cons rfl (ones_cons rfl (ones_cons (h.rdAt 67 rfl).one (ones_cons rfl ones_nil)))) fun w h => wl_nil (then_normal (wck_held (L := (ob v3)) mixed h fun w h => whk_ok 0 (Keep.refl _ _) rfl want_none (by kernel_rfl) (by kernel_rfl) (by kernel_rfl) (fun w hk => r_fieldAddr Fld26x0 rfl) (whk_ok 1 (Keep.refl _ _) rfl want_none (by kernel_rfl) (by kernel_rfl) (by kernel_rfl) (fun w hk => have h := h.loseC 29 rfl hk; r_ldB h 3 rfl One23 rfl rfl) (whk_ok 2 (Keep.refl _ _) rfl want_none (by kernel_rfl) (by kernel_rfl) (by kernel_rfl) (fun w hk => r_move (v := (.int .i64 (i13))) rfl) (whk_ok 3 (Keep.refl _ _) rfl want_none (by kernel_rfl) (by kernel_rfl) (by kernel_rfl) (fun w hk => r_fieldAddr Fld49x2 rfl) (whk_ok 4 (Keep.refl _ _) rfl want_none (by kernel_rfl) (by kernel_rfl) (by kernel_rfl) (fun w hk => have h := h.loseC 29 rfl hk; r_ldB h 68 rfl One47 rfl rfl) ?_))))))))
    obtain ⟨ws35, ws35e⟩ : ∃ x, x = w := ⟨_, rfl⟩
    have hg36 : Keep (ob v3) ws35 w := ws35e ▸ Keep.refl (ob v3) w
    refine whk_at ws35e.symm (whk_eff 5 (by kernel_rfl) rfl want_none ?_)
    obtain ⟨yq34x5_1, eq34x5_2, hs⟩ := o_bind hs
    have zq34x5_3 := clone_eq eq34x5_2
    subst zq34x5_3
    refine w_call fnOk85 rfl rfl (slices_Clone_Value_c _ _ h.lt u24 x19.regs (h.rdS 67 rfl) _ eq34x5_2) ?_
    rintro _ w ⟨kq34x5_7, uq34x5_4, rfl, gq34x5_5, gq34x5_6⟩
    refine ⟨_, rfl, ?_⟩
    replace h := h.gotOwn 129 kq34x5_7 gq34x5_5 gq34x5_6
    have uq34x5_4q : ∀ b, ob uq34x5_4 b → ws35.heap.size ≤ b := fun b hb => Nat.le_trans hg36.size (gq34x5_6 b hb)
    replace hg36 := hg36.grow kq34x5_7
    refine wl_nil (whk_back hg36 ?_)
    obtain ⟨bq34x6_2, qq34x6_3, iq34x6_1⟩ := h.ixO 29 rfl SliceOf23 rfl (o_idx e20).1 (zip_at (o_idx e20).2 e25)
    refine whk_ok 6 hg36 rfl want_none (by kernel_rfl) (by kernel_rfl) (by kernel_rfl) (fun w hk => iq34x6_1 _ _ _ _ _ _ _ _ _ rfl rfl) (whk_ok 7 hg36 rfl want_none (by kernel_rfl) (by kernel_rfl) (by kernel_rfl) (fun w hk => r_fieldAddr Fld49x2 rfl) (whk_eff 8 (by kernel_rfl) rfl want_none ?_))
    have oq34x8_3 : (Value.oneCell' uq34x5_4) = true := (h.ownAt 129 rfl).one
    refine w_stOG (a' := (x19, uq34x5_4)) h 29 rfl qq34x6_3 rfl (zip_at (o_idx e20).2 e25) One47 rfl rfl oq34x8_3 rfl (by rintro _ ⟨rfl, _⟩; exact ⟨rfl, oq34x8_3⟩) fun w h kq34x8_2 => ?_
    replace hg36 := hg36.same kq34x8_2
    rw [zip_setR (o_idx e20).2, pd_nat hik] at h
    replace h := h.pendPut0 30 31 129 rfl rfl rfl (by decide) (by decide) (by decide) (pd_at hik (o_idx e20).2) (pd_at hik e25) rfl
    generalize List.set us11 k12 uq34x5_4 = usq34x8_4 at h
    refine wl_nil (whk_back hg36 (whk_done (by kernel_rfl) (inBlock_normal (then_normal (wc_region (wl_ok (r_add rfl rfl e18r) (wl_ok (r_move (v := (.int .i64 ((i13 + 1)))) rfl) (wl_nil (then_loop ?_)))))))))
    subst hnx16
    exact lend ⟨k12 + 1, i13 + 1, usq34x8_4⟩ ⟨h.cn _, by omega, hs⟩ (by have := of_decide_eq_true e17; dsimp only; omega)
   ·
    rw [upto_ge (by have := of_decide_eq_false e17; omega)] at hs
    replace h := h.famAll 30 rfl (by have := of_decide_eq_false e17; omega)
    replace h := h.dropC 31
    refine wc_exit (then_exit (then_exit (inBlock_eq (then_normal (wc_seq (wc_region (wl_ok (r_ldBN (vs := [v3, v5, (.int .i64 (a.status)), (.int .i64 (a.wher))]) h 3 rfl Many26 rfl rfl rfl) (w_stN (vs := [v3, v5, (.int .i64 (a.status)), (.int .i64 (a.wher))]) h 4 [v3, v5, (.int .i64 (a.status)), (.int .i64 (a.wher))] rfl Many26 rfl rfl rfl rfl rfl (ones_cons (h.ownAt 29 rfl).one (ones_cons (h.ownAt 65 rfl).one (ones_cons rfl (ones_cons rfl ones_nil)))) fun w h => wl_nil (then_normal (wc_ret (fin_c (vs := [v3, v5, (.int .i64 (a.status)), (.int .i64 (a.wher))]) Tryz.results49 rfl h 4 rfl Many26 rfl ?_)))))))))))
    replace h := h.pair 29 30 (by decide)
    replace h := h.pair 29 65 (by decide)
    replace h := h.pair 29 66 (by decide)
    obtain rfl := Option.some.inj hs
    obtain ⟨o1, o2, o3⟩ := h.outS 29 (C := (.two (.two (.two (.own nFrame.raw 49 v3 (List.zip a.frames us11)) (.pce (famS rVal 51 hn us11 (List.map nFrame.sub a.frames)))) (.own (nLst Val).raw 47 v5 (List.zip y7 us6))) (.pce (famS rVal 51 hn us6 (List.map (nLst Val).sub y7))) : Chunk)) rfl ⟨⟨⟨trivial, trivial⟩, trivial⟩, trivial⟩
    exact ⟨o2, v3, v5, us11, us6, rfl, o1, new_own o3⟩
 ·
  refine wck_held (L := (fun x => x = b1)) mixed h fun w h => whk_ok 0 (Keep.refl _ _) rfl want_none (by kernel_rfl) (by kernel_rfl) (by kernel_rfl) (fun w hk => r_fieldAddr Fld26x0 rfl) (whk_ok 3 (Keep.refl _ _) rfl want_none (by kernel_rfl) (by kernel_rfl) (by kernel_rfl) (fun w hk => r_fieldAddr Fld26x1 rfl) ?_)
  obtain ⟨yq42x2_1, eq42x2_2, hs⟩ := o_bind hs
  obtain ⟨yq42x5_1, eq42x5_2, hs⟩ := o_bind hs
  obtain ⟨ws43, ws43e⟩ : ∃ x, x = w := ⟨_, rfl⟩
  have hg44 : Keep (fun x => x = b1) ws43 w := ws43e ▸ Keep.refl (fun x => x = b1) w
  refine whk_at ws43e.symm (whk_eff2 1 4 (by kernel_rfl) rfl want_none rfl want_none ?_ ?_)
  ·
   refine wl_ok (r_ldB h 3 rfl One23 rfl rfl) (wl_nil (whk_back hg44 (whk_eff2 2 4 (by kernel_rfl) rfl want_none rfl want_none ?_ ?_)))
   ·
    have zq42x2_3 := clone_eq eq42x2_2
    subst zq42x2_3
    refine w_call fnOk83 rfl rfl (slices_Clone_Frame_c _ _ h.lt va0 a.frames (h.srS 1 rfl) _ eq42x2_2) ?_
    rintro _ w ⟨kq42x2_7, uq42x2_4, rfl, gq42x2_5, gq42x2_6⟩
    refine ⟨_, rfl, ?_⟩
    replace h := h.gotOwn 213 kq42x2_7 gq42x2_5 gq42x2_6
    have uq42x2_4q : ∀ b, ob uq42x2_4 b → ws43.heap.size ≤ b := fun b hb => Nat.le_trans hg44.size (gq42x2_6 b hb)
    replace hg44 := hg44.grow kq42x2_7
    obtain ⟨usq42x2_8, -, h⟩ := h.thaw (N := nFrame) (R := rVal) (Es := 51) 213 214 215 rfl (by decide) (by decide) (by decide) rfl nFrame_op
    refine wl_nil (whk_back hg44 (whk_eff 4 (by kernel_rfl) rfl want_none (wl_ok (r_ldB h 3 rfl One24 rfl rfl) (wl_nil (whk_back hg44 (whk_ok 6 hg44 rfl want_none (by kernel_rfl) (by kernel_rfl) (by kernel_rfl) (fun w hk => r_fieldAddr Fld26x0 rfl) (whk_eff 5 (by kernel_rfl) rfl want_none (w_call fnOk84 rfl rfl (cell_Copy_c _ _ h.lt va1 a.cells (h.srS 2 rfl) _ eq42x5_2) ?_))))))))
    rintro _ w ⟨kq42x5_7, uq42x5_3, usq42x5_4, rfl, hq42x5_5, hq42x5_6⟩
    refine ⟨_, rfl, ?_⟩
    replace h := h.gotC 249 (C := (.two (.own (nLst Val).raw 47 uq42x5_3 (List.zip yq42x5_1 usq42x5_4)) (.pce (famS rVal 51 hn usq42x5_4 (List.map (nLst Val).sub yq42x5_1))) : Chunk)) kq42x5_7 ⟨trivial, trivial⟩ hq42x5_5 hq42x5_6
    replace h := h.unpair 249 250 (by decide) rfl rfl
    replace hg44 := hg44.grow kq42x5_7
    refine wl_nil (whk_back hg44 (whk_eff 7 (by kernel_rfl) rfl want_none (w_st1G h 3 [uq42x2_4, va1, (.int .i64 (a.status)), (.int .i64 (a.wher))] rfl One23 rfl rfl rfl rfl (h.ownAt 213 rfl).one fun w h kq42x7_1 => ?_)))
    replace hg44 := hg44.same kq42x7_1
    refine wl_nil (whk_back hg44 (whk_ok 8 hg44 rfl want_none (by kernel_rfl) (by kernel_rfl) (by kernel_rfl) (fun w hk => r_fieldAddr Fld26x1 rfl) (whk_eff 9 (by kernel_rfl) rfl want_none (w_st1G h 3 [uq42x2_4, uq42x5_3, (.int .i64 (a.status)), (.int .i64 (a.wher))] rfl One24 rfl rfl rfl rfl (h.ownAt 249 rfl).one fun w h kq42x9_1 => ?_))))
    replace hg44 := hg44.same kq42x9_1
    refine wl_nil (whk_back hg44 (whk_done (by kernel_rfl) (then_loop ?_)))
    replace h := (h.dropC 29).moveC 213 29 rfl rfl (by decide)
    replace h := (h.dropC 30).moveC 214 30 rfl rfl (by decide)
    replace h := (h.dropC 31).moveC 215 31 rfl rfl (by decide)
    replace h := (h.dropC 65).moveC 249 65 rfl rfl (by decide)
    replace h := (h.dropC 66).moveC 250 66 rfl rfl (by decide)
    exact jend (uq42x2_4, usq42x2_8, uq42x5_3, usq42x5_4, yq42x5_1) ⟨h.cn _, hs⟩
   ·
    refine wl_ok (r_ldB h 3 rfl One24 rfl rfl) (wl_nil (whk_back hg44 (whk_eff 2 (by kernel_rfl) rfl want_none ?_)))
    have zq42x2_3 := clone_eq eq42x2_2
    subst zq42x2_3
    refine w_call fnOk83 rfl rfl (slices_Clone_Frame_c _ _ h.lt va0 a.frames (h.srS 1 rfl) _ eq42x2_2) ?_
    rintro _ w ⟨kq42x2_7, uq42x2_4, rfl, gq42x2_5, gq42x2_6⟩
    refine ⟨_, rfl, ?_⟩
    replace h := h.gotOwn 213 kq42x2_7 gq42x2_5 gq42x2_6
    have uq42x2_4q : ∀ b, ob uq42x2_4 b → ws43.heap.size ≤ b := fun b hb => Nat.le_trans hg44.size (gq42x2_6 b hb)
    replace hg44 := hg44.grow kq42x2_7
    obtain ⟨usq42x2_8, -, h⟩ := h.thaw (N := nFrame) (R := rVal) (Es := 51) 213 214 215 rfl (by decide) (by decide) (by decide) rfl nFrame_op
    refine wl_nil (whk_back hg44 (whk_ok 6 hg44 rfl want_none (by kernel_rfl) (by kernel_rfl) (by kernel_rfl) (fun w hk => r_fieldAddr Fld26x0 rfl) (whk_eff 5 (by kernel_rfl) rfl want_none (w_call fnOk84 rfl rfl (cell_Copy_c _ _ h.lt va1 a.cells (h.srS 2 rfl) _ eq42x5_2) ?_))))
    rintro _ w ⟨kq42x5_7, uq42x5_3, usq42x5_4, rfl, hq42x5_5, hq42x5_6⟩
    refine ⟨_, rfl, ?_⟩
    replace h := h.gotC 249 (C := (.two (.own (nLst Val).raw 47 uq42x5_3 (List.zip yq42x5_1 usq42x5_4)) (.pce (famS rVal 51 hn usq42x5_4 (List.map (nLst Val).sub yq42x5_1))) : Chunk)) kq42x5_7 ⟨trivial, trivial⟩ hq42x5_5 hq42x5_6
    replace h := h.unpair 249 250 (by decide) rfl rfl
    replace hg44 := hg44.grow kq42x5_7
    refine wl_nil (whk_back hg44 (whk_eff 7 (by kernel_rfl) rfl want_none (w_st1G h 3 [uq42x2_4, va1, (.int .i64 (a.status)), (.int .i64 (a.wher))] rfl One23 rfl rfl rfl rfl (h.ownAt 213 rfl).one fun w h kq42x7_1 => ?_)))
    replace hg44 := hg44.same kq42x7_1
    refine wl_nil (whk_back hg44 (whk_ok 8 hg44 rfl want_none (by kernel_rfl) (by kernel_rfl) (by kernel_rfl) (fun w hk => r_fieldAddr Fld26x1 rfl) (whk_eff 9 (by kernel_rfl) rfl want_none (w_st1G h 3 [uq42x2_4, uq42x5_3, (.int .i64 (a.status)), (.int .i64 (a.wher))] rfl One24 rfl rfl rfl rfl (h.ownAt 249 rfl).one fun w h kq42x9_1 => ?_))))
    replace hg44 := hg44.same kq42x9_1
    refine wl_nil (whk_back hg44 (whk_done (by kernel_rfl) (then_loop ?_)))
    replace h := (h.dropC 29).moveC 213 29 rfl rfl (by decide)
    replace h := (h.dropC 30).moveC 214 30 rfl rfl (by decide)
    replace h := (h.dropC 31).moveC 215 31 rfl rfl (by decide)
    replace h := (h.dropC 65).moveC 249 65 rfl rfl (by decide)
    replace h := (h.dropC 66).moveC 250 66 rfl rfl (by decide)
    exact jend (uq42x2_4, usq42x2_8, uq42x5_3, usq42x5_4, yq42x5_1) ⟨h.cn _, hs⟩
  ·
   refine wl_ok (r_ldB h 3 rfl One24 rfl rfl) (wl_nil (whk_back hg44 (whk_eff 1 (by kernel_rfl) rfl want_none (wl_ok (r_ldB h 3 rfl One23 rfl rfl) (wl_nil (whk_back hg44 (whk_eff 2 (by kernel_rfl) rfl want_none ?_)))))))
   have zq42x2_3 := clone_eq eq42x2_2
   subst zq42x2_3
   refine w_call fnOk83 rfl rfl (slices_Clone_Frame_c _ _ h.lt va0 a.frames (h.srS 1 rfl) _ eq42x2_2) ?_
   rintro _ w ⟨kq42x2_7, uq42x2_4, rfl, gq42x2_5, gq42x2_6⟩
   refine ⟨_, rfl, ?_⟩
   replace h := h.gotOwn 213 kq42x2_7 gq42x2_5 gq42x2_6
   have uq42x2_4q : ∀ b, ob uq42x2_4 b → ws43.heap.size ≤ b := fun b hb => Nat.le_trans hg44.size (gq42x2_6 b hb)
   replace hg44 := hg44.grow kq42x2_7
   obtain ⟨usq42x2_8, -, h⟩ := h.thaw (N := nFrame) (R := rVal) (Es := 51) 213 214 215 rfl (by decide) (by decide) (by decide) rfl nFrame_op
   refine wl_nil (whk_back hg44 (whk_ok 6 hg44 rfl want_none (by kernel_rfl) (by kernel_rfl) (by kernel_rfl) (fun w hk => r_fieldAddr Fld26x0 rfl) (whk_eff 5 (by kernel_rfl) rfl want_none (w_call fnOk84 rfl rfl (cell_Copy_c _ _ h.lt va1 a.cells (h.srS 2 rfl) _ eq42x5_2) ?_))))
   rintro _ w ⟨kq42x5_7, uq42x5_3, usq42x5_4, rfl, hq42x5_5, hq42x5_6⟩
   refine ⟨_, rfl, ?_⟩
   replace h := h.gotC 249 (C := (.two (.own (nLst Val).raw 47 uq42x5_3 (List.zip yq42x5_1 usq42x5_4)) (.pce (famS rVal 51 hn usq42x5_4 (List.map (nLst Val).sub yq42x5_1))) : Chunk)) kq42x5_7 ⟨trivial, trivial⟩ hq42x5_5 hq42x5_6
   replace h := h.unpair 249 250 (by decide) rfl rfl
   replace hg44 := hg44.grow kq42x5_7
   refine wl_nil (whk_back hg44 (whk_eff 7 (by kernel_rfl) rfl want_none (w_st1G h 3 [uq42x2_4, va1, (.int .i64 (a.status)), (.int .i64 (a.wher))] rfl One23 rfl rfl rfl rfl (h.ownAt 213 rfl).one fun w h kq42x7_1 => ?_)))
   replace hg44 := hg44.same kq42x7_1
   refine wl_nil (whk_back hg44 (whk_ok 8 hg44 rfl want_none (by kernel_rfl) (by kernel_rfl) (by kernel_rfl) (fun w hk => r_fieldAddr Fld26x1 rfl) (whk_eff 9 (by kernel_rfl) rfl want_none (w_st1G h 3 [uq42x2_4, uq42x5_3, (.int .i64 (a.status)), (.int .i64 (a.wher))] rfl One24 rfl rfl rfl rfl (h.ownAt 249 rfl).one fun w h kq42x9_1 => ?_))))
   replace hg44 := hg44.same kq42x9_1
   refine wl_nil (whk_back hg44 (whk_done (by kernel_rfl) (then_loop ?_)))
   replace h := (h.dropC 29).moveC 213 29 rfl rfl (by decide)
   replace h := (h.dropC 30).moveC 214 30 rfl rfl (by decide)
   replace h := (h.dropC 31).moveC 215 31 rfl rfl (by decide)
   replace h := (h.dropC 65).moveC 249 65 rfl rfl (by decide)
   replace h := (h.dropC 66).moveC 250 66 rfl rfl (by decide)
   exact jend (uq42x2_4, usq42x2_8, uq42x5_3, usq42x5_4, yq42x5_1) ⟨h.cn _, hs⟩
def vm_op_j1 (x8 : Int) : Option (Val × Bool) :=
  some ((⟨1, x8⟩ : Val), (decide ((-1000000000 : Int) ≤ x8) && decide ((x8 : Int) ≤ 1000000000)))
def vm_op (a : Int) (b : Val) (c : Val) : Option (Val × Bool) :=
  bif decide ((a : Int) = 5) then bif (decide (b.kind = c.kind) && decide (b.n = c.n)) then some ((⟨1, 1⟩ : Val), true) else some ((⟨1, 0⟩ : Val), true) else bif (decide ((b.kind : Int) ≠ 1) || decide ((c.kind : Int) ≠ 1)) then some ((⟨0, 0⟩ : Val), false) else bif decide ((a : Int) = 1) then grd (I64 (b.n + c.n)) (vm_op_j1 (b.n + c.n)) else bif decide ((a : Int) = 2) then grd (I64 (b.n - c.n)) (vm_op_j1 (b.n - c.n)) else bif decide ((a : Int) = 3) then grd (I64 (b.n * c.n)) (vm_op_j1 (b.n * c.n)) else bif decide ((a : Int) = 4) then bif decide ((b.n : Int) < c.n) then some ((⟨1, 1⟩ : Val), true) else some ((⟨1, 0⟩ : Val), true) else vm_op_j1 0
end
end Go.Proofs.YtfclkapelkhlpaaGreatDoor
