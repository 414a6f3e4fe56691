/-
  Functions of the program, each as plain Lean, and that the code does just that.
-/
import Derived.Test.YtckocfgmnlhcmaaDoorProg
import Derived.Test.YtckocfgmnlhcmaaDoorLiftD
import Derived.Test.YtckocfgmnlhcmaaDoorImgShelf
import Derived.Test.YtckocfgmnlhcmaaDoorImg
set_option linter.unusedSimpArgs false
set_option linter.unusedVariables false
set_option maxRecDepth 10000
namespace Go.Proofs.YtckocfgmnlhcmaaDoor
open Go Go.Proofs Go.LX
theorem wandererlaw_printed_c (N : Nat) (w0 : World) (M : BS) (hM : ∀ b, M b → b < w0.heap.size) (hT : Tabs Tryd.prog 0 w0)  (r : Bool) (hs : wandererlaw_printed N = some r) :
    Calls Tryd.prog 9 #[] w0 (fun e w' => Grow w0 w' ∧ e = .returned (.bool r)) := by
 refine calls_start (args := []) Tryd.func9 rfl Tryd.ntmps9 (Nat.le_of_ble_eq_true rfl) ?_
 have h := SH.init hM
 refine wc_seq (wc_region (wl_ok (r_assign (v := (.bool (false))) rfl) (wl_nil (then_normal (wc_seq (wc_region (wl_ok (r_build (pv := [(0, (.int .i64 (8)))]) (out := [(.int .i64 (8)), (.int .i64 (0)), (.int .i64 (0)), (.int .i64 (0)), (.slice none 0 0)]) Struct54 rfl ⟨0, 1, [(.int .i64 (8))], rfl, rfl, rfl, Nat.le_of_ble_eq_true rfl, rfl⟩) (w_bs (R := rIns) (vs := [(.agg #[(.int .i64 (8)), (.int .i64 (0)), (.int .i64 (0)), (.int .i64 (0)), (.slice none 0 0)])]) (xs := [(⟨8, 0, 0, 0, []⟩ : Ins)]) h 1 ElemOf50 rfl rfl rfl ⟨⟨_, rfl, Rd2.nil⟩, trivial⟩ rfl fun w u1 h => wl_ok (r_build (pv := [(1, (.int .i64 (1))), (2, u1)]) (out := [(.int .i64 (0)), (.int .i64 (1)), u1]) Struct52 rfl ⟨1, 1, [(.int .i64 (1))], rfl, rfl, rfl, Nat.le_of_ble_eq_true rfl, ⟨2, 1, [u1], rfl, (toList_of_one (h.ownAt 1 rfl).one), rfl, Nat.le_of_ble_eq_true rfl, rfl⟩⟩) ?_))))))))
 replace h := h.freeze 1 rfl
 refine w_bs (R := rProc) (vs := [(.agg #[(.int .i64 (0)), (.int .i64 (1)), u1])]) (xs := [(⟨0, 1, [(⟨8, 0, 0, 0, []⟩ : Ins)]⟩ : Proc)]) h 2 ElemOf22 rfl rfl rfl ⟨⟨_, rfl, (h.rdAt 1 rfl)⟩, trivial⟩ rfl fun w u2 h => wl_ok (r_assign (v := u2) rfl) (wl_nil (then_normal (wc_seq (wc_region (wl_ok (r_move (v := u2) rfl) ?_)))))
 obtain ⟨y3, e4, hs⟩ := o_bind hs
 refine w_call fnOk6 rfl rfl (image_Print_c _ _ h.lt (hT.go h.keep) u2 [(⟨0, 1, [(⟨8, 0, 0, 0, []⟩ : Ins)]⟩ : Proc)] (h.ownS 2 rfl) _ e4) ?_
 rintro _ w ⟨k5, rfl⟩
 refine ⟨_, rfl, ?_⟩
 replace h := h.grow k5
 refine wl_ok (r_move (v := (.tuple #[(strV y3.1), (.int .i64 (y3.2))])) rfl) (wl_ok (r_extract rfl rfl) (wl_ok (r_extract rfl rfl) (wl_ok (r_assign (v := (strV y3.1)) rfl) (wl_ok (r_assign (v := (.int .i64 (y3.2))) rfl) (wl_nil (then_normal (wc_seq (wc_region (wl_ok (r_move (v := (strV y3.1)) rfl) ?_)))))))))
 obtain ⟨y6, e7, hs⟩ := o_bind hs
 refine w_call fnOk7 rfl rfl (image_Parse_c N _ _ h.lt (hT.go h.keep) y3.1 _ e7) ?_
 rintro _ w ⟨k10, u8, rfl, g9⟩
 refine ⟨_, rfl, ?_⟩
 replace h := h.gotRd 3 k10 g9
 refine wl_ok (r_move (v := (.tuple #[u8, (.int .i64 (y6.2))])) rfl) (wl_ok (r_extract rfl rfl) (wl_ok (r_extract rfl rfl) (wl_ok (r_assign (v := u8) rfl) (wl_ok (r_assign (v := (.int .i64 (y6.2))) rfl) (wl_nil (then_normal (wc_seq (wc_region (wl_ok (r_move (v := (.int .i64 (y3.2))) rfl) (wl_ok (r_eql rfl rfl) (wl_ok (r_move (v := (.bool (decide ((y3.2 : Int) = 0)))) rfl) (wl_gd0 rfl rfl (fun q => r_move (v := (.int .i64 (y6.2))) rfl) (wl_gd0 rfl rfl (fun q => r_eql (gvt q) rfl) (wl_ok (r_pand rfl rfl evc) (wl_ok (r_move (v := (.bool ((decide ((y3.2 : Int) = 0) && decide ((y6.2 : Int) = 0))))) rfl) (wl_gd0 rfl rfl (fun q => r_move (v := (strV y3.1)) rfl) (wl_gd0 rfl rfl (fun q => r_eqls (gvt q) rfl) (wl_ok (r_pand rfl rfl evc) (wl_ok (r_move (v := (.bool (((decide ((y3.2 : Int) = 0) && decide ((y6.2 : Int) = 0)) && decide ((y3.1 : Str) = [48, 32, 49, 32, 49, 10, 56, 32, 48, 32, 48, 32, 48, 10]))))) rfl) (c_split (b := ((decide ((y3.2 : Int) = 0) && decide ((y6.2 : Int) = 0)) && decide ((y3.1 : Str) = [48, 32, 49, 32, 49, 10, 56, 32, 48, 32, 48, 32, 48, 10]))) hs (fun c11 hs => ?_) (fun c11 hs => ?_)))))))))))))))))))))
 ·
  refine wl_on rfl (congrArg Value.bool c11) (wl_ok (r_move (v := u2) rfl) (wl_on rfl (congrArg Value.bool c11) (wl_ok (r_move (v := u8) rfl) (wl_on rfl (congrArg Value.bool c11) ?_))))
  obtain ⟨y12, e13, hs⟩ := o_bind hs
  refine w_call fnOk8 rfl rfl (code_Same_c _ _ h.lt u2 [(⟨0, 1, [(⟨8, 0, 0, 0, []⟩ : Ins)]⟩ : Proc)] (h.ownS 2 rfl) u8 y6.1 (h.rdS 3 rfl) _ e13) ?_
  rintro _ w ⟨k14, rfl⟩
  refine ⟨_, rfl, ?_⟩
  replace h := h.grow k14
  refine wl_ok (r_pick (b := true) (v := (.bool (y12))) (congrArg Value.bool c11) rfl) (wl_ok (r_assign (v := (.bool (y12))) rfl) (wl_nil (then_normal (wc_ret (fin1 (v := (.bool (y12))) Tryd.results9 rfl ?_)))))
  obtain rfl := Option.some.inj hs
  exact ⟨h.grown, rfl⟩
 ·
  refine wl_off (b' := false) rfl (congrArg Value.bool c11) rfl (wl_off (b' := false) rfl (congrArg Value.bool c11) rfl (wl_off (b' := false) rfl (congrArg Value.bool c11) rfl (wl_ok (r_pick (b := false) (v := (.bool (false))) (congrArg Value.bool c11) rfl) (wl_ok (r_assign (v := (.bool (false))) rfl) (wl_nil (then_normal (wc_ret (fin1 (v := (.bool (false))) Tryd.results9 rfl ?_))))))))
  obtain rfl := Option.some.inj hs
  exact ⟨h.grown, rfl⟩
theorem strconv_ParseInt_c (w0 : World) (M : BS) (hM : ∀ b, M b → b < w0.heap.size) (hT : Tabs Tryd.prog 0 w0) (a : Str) (r : Int × Bool) (hs : parseS a = some r) :
    Calls Tryd.prog 58 #[strV a, .int .i64 10, .int .i64 64] w0 (fun e w' => Grow w0 w' ∧ ∃ u, e = .returned (.tuple #[.int .i64 r.1, u]) ∧ IsErr u r.2) :=
  parse_w Tryd.strconv_ParseInt_10_at64_ok Tryd.strconv_ParseInt_10_at64_syntax_var Tryd.strconv_ParseInt_10_at64_range_var hT hs
theorem strconv_FormatInt_c (w0 : World) (M : BS) (hM : ∀ b, M b → b < w0.heap.size) (hT : Tabs Tryd.prog 0 w0) (a : Int) (r : Str) (hs : itoaS a = some r) :
    Calls Tryd.prog 59 #[.int .i64 a, .int .i64 10] w0 (fun e w' => Grow w0 w' ∧ e = .returned (strV r)) :=
  format_w Tryd.strconv_FormatInt_10 hT hs
def wandererref_numbers_j26 (x13 : List Int) (y26 : Int × Bool) (nx18 : List Int → Option (List Int × Bool)) (x31 : Bool) : Option (List Int × Bool) :=
  bif x31 then some ([], false) else grd (Room 8 x13 [y26.1]) (nx18 (x13 ++ [y26.1]))
def wandererref_numbers_b27 (x16 : Str) (x13 : List Int) (nx18 : List Int → Option (List Int × Bool)) : Option (List Int × Bool) :=
  (parseS x16).bind fun y26 => bif y26.2 then wandererref_numbers_j26 x13 y26 nx18 true else (itoaS y26.1).bind fun y37 => wandererref_numbers_j26 x13 y26 nx18 (decide ((y37 : Str) ≠ x16))
def wandererref_numbers_k28 (x13 : List Int) : Option (List Int × Bool) :=
  some (x13, true)
def wandererref_numbers (a : Str) : Option (List Int × Bool) :=
  (splitS a [32]).bind fun y1 => each wandererref_numbers_b27 wandererref_numbers_k28 y1 []
theorem wandererref_numbers_c (w0 : World) (M : BS) (hM : ∀ b, M b → b < w0.heap.size) (hT : Tabs Tryd.prog 0 w0) (a : Str) (r : List Int × Bool) (hs : wandererref_numbers a = some r) :
    Calls Tryd.prog 36 #[(strV a)] w0 (fun e w' => Grow w0 w' ∧ ∃ u0, e = .returned (.tuple #[u0, .bool r.2]) ∧ OwnSl rInt 3 w' M u0 r.1 ∧ (∀ b, ob u0 b → w0.heap.size ≤ b)) := by
 refine calls_start (args := [(strV a)]) Tryd.func36 rfl Tryd.ntmps36 (Nat.le_of_ble_eq_true rfl) ?_
 have h := SH.init hM
 refine wc_seq (wc_region (wl_ok (r_assign (v := (.slice none 0 0)) rfl) (wl_ok (r_assign (v := (.bool (false))) rfl) (wl_nil (then_normal (wc_seq (wc_region (wl_ok (r_assign (v := (.slice none 0 0)) rfl) (wl_nil (then_normal (wc_seq (wc_seq (wc_region (wl_ok (r_move (v := (strV a)) rfl) ?_))))))))))))))
 obtain ⟨y1, e2, hs⟩ := o_bind hs
 refine w_call fnOk35 rfl rfl (strings_Split_c _ _ h.lt (hT.go h.keep) a [32] _ e2) ?_
 rintro _ w ⟨k5, u3, rfl, g4⟩
 refine ⟨_, rfl, ?_⟩
 replace h := h.gotRd 1 k5 g4
 refine wl_ok (r_len SliceOf68 rfl (h.rdS 1 rfl)) (wl_ok (r_move (v := (.int .i64 (0))) rfl) (wl_nil (then_normal (wc_block ?_))))
 replace h := h.nilO (R := rInt) (E := 3) 5
 refine wc_lp (σ := Nat × Int × Value × List Int) (inl [2, 3, 4, 6, 7, 8, 12, 13, 14, 15, 16, 17, 18, 19, 20, 21, 22, 23, 24, 25, 26, 27, 28, 29, 30, 31, 32, 33]) (fun ⟨k14, i15, v12, x13⟩ => [(4, v12), (12, (.int .i64 (i15)))]) (fun ⟨k14, i15, v12, x13⟩ w => SH w0 M BE w (hset [(1, .rd rStr u3 y1), (5, .own rInt 3 v12 x13)]) ∧ i15 = (k14 : Int) ∧ each wandererref_numbers_b27 wandererref_numbers_k28 (y1.drop k14) x13 = some r) (fun ⟨k14, i15, v12, x13⟩ => y1.length - k14) ⟨0, 0, (.slice none 0 0), []⟩ ⟨rfl, rfl, trivial⟩ ?_ ?_
 ·
  exact ⟨h.cn _, rfl, hs⟩
 ·
  rintro ⟨k14, i15, v12, x13⟩ w junk ⟨h, hik, hs⟩
  refine wc_seq (wc_region ?_)
  refine wl_ok (r_lss rfl rfl) (wl_nil (then_normal ?_))
  refine wc_seq (wc_if rfl (fun e19 => ?_) (fun e19 => ?_))
  ·
   refine wc_skip (then_normal ?_)
   obtain ⟨x16, e20a, e20b⟩ := drop_lt (hik ▸ e19)
   rw [e20b, each_cons] at hs
   generalize hnx18 : each wandererref_numbers_b27 wandererref_numbers_k28 (y1.drop (k14 + 1)) = nx18 at hs
   have e20r := nat_rng ((h.rdS 1 rfl)).len_le hik e19
   refine wc_seq (wc_block (wc_seq (wc_region ?_)))
   obtain ⟨b22, o23, cs24, h, r25, i21⟩ := h.ixR 1 6 rfl SliceOf68 rfl (nat_nn hik) (get_nat hik e20a)
   obtain rfl := r25
   refine wl_ok (i21 _ _ _ _ _ _ _ _ _ rfl rfl) (wl_ok (r_ldP (k := 0) h 6 rfl One9 rfl rfl) (wl_ok (r_assign (v := (strV x16)) rfl) (wl_nil (then_normal (wc_seq (wc_region (wl_ok (r_move (v := (strV x16)) rfl) ?_)))))))
   obtain ⟨y26, e27, hs⟩ := o_bind hs
   refine w_call fnOk58 rfl rfl (strconv_ParseInt_c _ _ h.lt (hT.go h.keep) x16 _ e27) ?_
   rintro _ w ⟨k30, u28, rfl, g29⟩
   refine ⟨_, rfl, ?_⟩
   replace h := h.grow k30
   refine wl_ok (r_move (v := (.tuple #[(.int .i64 (y26.1)), u28])) rfl) (wl_ok (r_extract rfl rfl) (wl_ok (r_extract rfl rfl) (wl_ok (r_assign (v := (.int .i64 (y26.1))) rfl) (wl_ok (r_assign (v := u28) rfl) (wl_nil (then_normal (wc_seq (wc_join (σ := Bool) (inl [21, 22, 23, 24, 25, 26, 27, 28]) (fun x31 => [(28, (.bool (x31)))]) (fun x31 w => SH w0 M BE w (hset [(1, .rd rStr u3 y1), (5, .own rInt 3 v12 x13)]) ∧ wandererref_numbers_j26 x13 y26 nx18 x31 = some r) ?_ ?_))))))))
   ·
    rintro x31 w junk ⟨h, hs⟩
    refine wc_ifb hs rfl (fun c32 hs => ?_) (fun c32 hs => ?_)
    ·
     refine wc_seq (wc_region (wl_ok (r_assign (v := (.slice none 0 0)) rfl) (wl_ok (r_assign (v := (.bool (false))) rfl) (wl_nil (then_normal (wc_ret (then_ret (inBlock_ret (then_ret (then_ret (inBlock_ret (then_ret (fin2 (v1 := (.slice none 0 0)) (v2 := (.bool (false))) Tryd.results36 rfl rfl ?_)))))))))))))
     obtain rfl := Option.some.inj hs
     exact ⟨h.grown, _, rfl, OwnSl.nil, fresh_nil⟩
    ·
     refine wc_skip (then_normal (wc_region (wl_ok (r_move (v := v12) rfl) (wl_ok (r_move (v := (.int .i64 (y26.1))) rfl) (w_bs (R := rInt) (vs := [(.int .i64 (y26.1))]) (xs := [y26.1]) h 7 ElemOf43 rfl rfl rfl ⟨rfl, trivial⟩ rfl fun w u33 h => ?_)))))
     obtain ⟨a34, hs⟩ := o_grd hs
     refine w_app (R := rInt) (m := [y26.1]) h 5 rfl (h.ownS 7 rfl) ElemOf43 rfl rfl rfl a34.1 a34.2 fun w u35 h => wl_ok (r_assign (v := u35) rfl) (wl_nil (inBlock_normal (then_normal (wc_region (wl_ok (r_add rfl rfl e20r) (wl_ok (r_move (v := (.int .i64 ((i15 + 1)))) rfl) (wl_nil (then_loop ?_))))))))
     subst hnx18
     exact lend ⟨k14 + 1, i15 + 1, u35, (x13 ++ [y26.1])⟩ ⟨h.cn _, by omega, hs⟩ (by have := of_decide_eq_true e19; dsimp only; omega)
   ·
    refine wc_region (wl_ok (r_move (v := u28) rfl) (wl_ok (r_neqnilI IfaceT45 rfl g29 rfl) (wl_ok (r_move (v := (.bool (y26.2))) rfl) (c_split (b := y26.2) hs (fun c36 hs => ?_) (fun c36 hs => ?_)))))
    ·
     refine wl_off (b' := true) rfl (congrArg Value.bool c36) rfl (wl_off (b' := true) rfl (congrArg Value.bool c36) rfl (wl_off (b' := true) rfl (congrArg Value.bool c36) rfl (wl_off (b' := true) rfl (congrArg Value.bool c36) rfl (wl_ok (r_pick (b := true) (v := (.bool (true))) (congrArg Value.bool c36) rfl) (wl_nil (then_loop ?_))))))
     exact jend true ⟨h.cn _, hs⟩
    ·
     refine wl_on rfl (congrArg Value.bool c36) (wl_ok (r_move (v := (.int .i64 (y26.1))) rfl) (wl_on rfl (congrArg Value.bool c36) ?_))
     obtain ⟨y37, e38, hs⟩ := o_bind hs
     refine w_call fnOk59 rfl rfl (strconv_FormatInt_c _ _ h.lt (hT.go h.keep) y26.1 _ e38) ?_
     rintro _ w ⟨k39, rfl⟩
     refine ⟨_, rfl, ?_⟩
     replace h := h.grow k39
     refine wl_on rfl (congrArg Value.bool c36) (wl_ok (r_move (v := (strV x16)) rfl) (wl_on rfl (congrArg Value.bool c36) (wl_ok (r_neqs rfl rfl) (wl_ok (r_pick (b := false) (v := (.bool (decide ((y37 : Str) ≠ x16)))) (congrArg Value.bool c36) rfl) (wl_nil (then_loop ?_))))))
     exact jend (decide ((y37 : Str) ≠ x16)) ⟨h.cn _, hs⟩
  ·
   rw [drop_ge (hik ▸ e19), each_nil] at hs
   refine wc_exit (then_exit (then_exit (inBlock_eq (then_normal (wc_seq (wc_region (wl_ok (r_move (v := v12) rfl) (wl_ok (r_assign (v := v12) rfl) (wl_ok (r_assign (v := (.bool (true))) rfl) (wl_nil (then_normal (wc_ret (fin2 (v1 := v12) (v2 := (.bool (true))) Tryd.results36 rfl rfl ?_)))))))))))))
   obtain rfl := Option.some.inj hs
   exact ⟨h.grown, _, rfl, (h.outOwn 5 rfl).1, (h.outOwn 5 rfl).2⟩
def wandererref_CodeRead_j120 (x80 : Int) (nx87 : (Int × Int × List Ins) → Option (List Proc × Int)) (x79 : Int) (y92 : List Ins) : Option (List Proc × Int) :=
  grd (I64 (x80 + 1)) (nx87 ((x79 + 1), (x80 + 1), y92))
def wandererref_CodeRead_b121 (x59 : Int) (x16 : List Str) (x31 : List Proc) (xq56x1_1 : Int) (xq56x4_1 : Int) (nx37 : (List Proc × Int) → Option (List Proc × Int)) (s : Int × Int × List Ins) (nx87 : Int × Int × List Ins → Option (List Proc × Int)) : Option (List Proc × Int) :=
  match s with | (x79, x80, y82) => bif decide ((x80 : Int) < x59) then grd (I64 (x79 + 1)) ((idx x16 (x79 + 1)).bind fun x95 => (wandererref_numbers x95).bind fun y102 => bif ((!y102.2) || decide (((y102.1.length : Int) : Int) < 4)) then some ([], 1) else (idx y102.1 0).bind fun xq116x3_1 => (idx y102.1 1).bind fun xq116x6_1 => (idx y102.1 2).bind fun xq116x9_1 => (idx y102.1 3).bind fun xq116x12_1 => (sub? y102.1 4 (y102.1.length : Int)).bind fun xq116x15_1 => grd (Room 56 y82 [(⟨xq116x3_1, xq116x6_1, xq116x9_1, xq116x12_1, xq116x15_1⟩ : Ins)]) (wandererref_CodeRead_j120 x80 nx87 x79 (y82 ++ [(⟨xq116x3_1, xq116x6_1, xq116x9_1, xq116x12_1, xq116x15_1⟩ : Ins)]))) else grd (Room 40 x31 [(⟨xq56x1_1, xq56x4_1, y82⟩ : Proc)]) (grd (I64 (x79 + 1)) (nx37 ((x31 ++ [(⟨xq56x1_1, xq56x4_1, y82⟩ : Proc)]), (x79 + 1))))
def wandererref_CodeRead_j113 (N : Nat) (y48 : List Int × Bool) (x16 : List Str) (x31 : List Proc) (nx37 : (List Proc × Int) → Option (List Proc × Int)) (x32 : Int) (x54 : Bool) : Option (List Proc × Int) :=
  bif x54 then some ([], 1) else (idx y48.1 0).bind fun xq56x1_1 => (idx y48.1 1).bind fun xq56x4_1 => (idx y48.1 2).bind fun x59 => again (wandererref_CodeRead_b121 x59 x16 x31 xq56x1_1 xq56x4_1 nx37) N (x32, 0, [])
def wandererref_CodeRead_b122 (N : Nat) (x16 : List Str) (s : List Proc × Int) (nx37 : List Proc × Int → Option (List Proc × Int)) : Option (List Proc × Int) :=
  match s with | (x31, x32) => bif decide ((x32 : Int) < (x16.length : Int)) then (idx x16 x32).bind fun x41 => (wandererref_numbers x41).bind fun y48 => bif ((!y48.2) || decide (((y48.1.length : Int) : Int) ≠ 3)) then wandererref_CodeRead_j113 N y48 x16 x31 nx37 x32 true else (idx y48.1 2).bind fun x124 => bif (!(wandererref_in x124 1 2000)) then wandererref_CodeRead_j113 N y48 x16 x31 nx37 x32 true else grd (I64 ((x16.length : Int) - 1)) (grd (I64 (((x16.length : Int) - 1) - x32)) (wandererref_CodeRead_j113 N y48 x16 x31 nx37 x32 (decide (((((x16.length : Int) - 1) - x32) : Int) < x124)))) else (wandererref_CheckCode x31).bind fun y145 => bif decide ((y145 : Int) ≠ 0) then some ([], y145) else some (x31, 0)
def wandererref_CodeRead (N : Nat) (a : Str) : Option (List Proc × Int) :=
  (splitS a [10]).bind fun y1 => grd (I64 ((y1.length : Int) - 1)) ((idx y1 ((y1.length : Int) - 1)).bind fun x7 => bif decide ((x7 : Str) ≠ []) then some ([], 1) else grd (I64 ((y1.length : Int) - 1)) ((sub? y1 0 ((y1.length : Int) - 1)).bind fun x16 => again (wandererref_CodeRead_b122 N x16) N ([], 0)))
theorem wandererref_CodeRead_c (N : Nat) (w0 : World) (M : BS) (hM : ∀ b, M b → b < w0.heap.size) (hT : Tabs Tryd.prog 0 w0) (a : Str) (r : List Proc × Int) (hs : wandererref_CodeRead N a = some r) :
    Calls Tryd.prog 12 #[(strV a)] w0 (fun e w' => Grow w0 w' ∧ ∃ u0, e = .returned (.tuple #[u0, .int .i64 r.2]) ∧ OwnSl rProc 52 w' M u0 r.1 ∧ (∀ b, ob u0 b → w0.heap.size ≤ b)) := by
 refine calls_start (args := [(strV a)]) Tryd.func12 rfl Tryd.ntmps12 (Nat.le_of_ble_eq_true rfl) ?_
 have h := SH.init hM
 refine wc_seq (wc_region (wl_ok (r_assign (v := (.slice none 0 0)) rfl) (wl_ok (r_assign (v := (.int .i64 (0))) rfl) (wl_nil (then_normal (wc_seq (wc_region (wl_ok (r_move (v := (strV a)) rfl) ?_))))))))
 obtain ⟨y1, e2, hs⟩ := o_bind hs
 refine w_call fnOk35 rfl rfl (strings_Split_c _ _ h.lt (hT.go h.keep) a [10] _ e2) ?_
 rintro _ w ⟨k5, u3, rfl, g4⟩
 refine ⟨_, rfl, ?_⟩
 replace h := h.gotRd 1 k5 g4
 refine wl_ok (r_assign (v := u3) rfl) (wl_nil (then_normal (wc_seq (wc_seq (wc_region (wl_ok (r_move (v := u3) rfl) (wl_ok (r_move (v := u3) rfl) (wl_ok (r_len SliceOf68 rfl (h.rdS 1 rfl)) ?_))))))))
 obtain ⟨a6, hs⟩ := o_grd hs
 refine wl_ok (r_sub rfl rfl a6) ?_
 obtain ⟨x7, e8, hs⟩ := o_bind hs
 obtain ⟨b10, o11, cs12, h, r13, i9⟩ := h.ixR 1 2 rfl SliceOf68 rfl (o_idx e8).1 (o_idx e8).2
 obtain rfl := r13
 refine wl_ok (i9 _ _ _ _ _ _ _ _ _ rfl rfl) (wl_ok (r_ldP (k := 0) h 2 rfl One9 rfl rfl) (wl_ok (r_neqs rfl rfl) (wl_nil (then_normal (wc_ifb hs rfl (fun c14 hs => ?_) (fun c14 hs => ?_))))))
 ·
  refine wc_seq (wc_region (wl_ok (r_assign (v := (.slice none 0 0)) rfl) (wl_ok (r_assign (v := (.int .i64 (1))) rfl) (wl_nil (then_normal (wc_ret (then_ret (fin2 (v1 := (.slice none 0 0)) (v2 := (.int .i64 (1))) Tryd.results12 rfl rfl ?_))))))))
  obtain rfl := Option.some.inj hs
  exact ⟨h.grown, _, rfl, OwnSl.nil, fresh_nil⟩
 ·
  refine wc_skip (then_normal (wc_seq (wc_region (wl_ok (r_move (v := u3) rfl) (wl_ok (r_move (v := u3) rfl) (wl_ok (r_len SliceOf68 rfl (h.rdS 1 rfl)) ?_))))))
  obtain ⟨a15, hs⟩ := o_grd hs
  refine wl_ok (r_sub rfl rfl a15) ?_
  obtain ⟨x16, e17, hs⟩ := o_bind hs
  obtain ⟨e20, e20a, e20b, e20c⟩ := o_sub e17
  obtain ⟨u18, h, i19⟩ := h.slR 1 3 rfl SliceOf68 rfl e20a e20b e20c
  rw [← e20] at h
  refine wl_ok (i19 _ _ _ _ _ _ _ _ _ _ rfl (.inl ⟨rfl, rfl⟩) (.inr (congrArg some rfl))) (wl_ok (r_assign (v := u18) rfl) (wl_nil (then_normal (wc_seq (wc_region (wl_ok (r_assign (v := (.slice none 0 0)) rfl) (wl_nil (then_normal (wc_seq (wc_seq (wc_region (wl_ok (r_assign (v := (.int .i64 (0))) rfl) (wl_nil (then_normal (wc_block ?_)))))))))))))))
  replace h := h.nilO (R := rProc) (E := 52) 7
  refine wc_lp (σ := Nat × Value × List Proc × Int) (inl [2, 3, 5, 6, 7, 8, 9, 10, 11, 27, 28, 29, 30, 31, 32, 33, 34, 35, 36, 37, 38, 39, 40, 41, 42, 43, 44, 45, 46, 47, 48, 49, 50, 51, 52, 53, 54, 55, 56, 57, 58, 59, 60, 61, 62, 63, 64, 65, 66, 67, 68, 69, 70, 71, 72, 73, 74, 75, 76, 77, 78, 79, 80, 81, 82, 83, 84, 85, 86, 87, 88, 89, 90, 91, 92, 93, 94, 95, 96, 97, 98, 99, 100, 101, 102, 103, 104, 105, 106, 107, 108, 109, 110, 111, 112, 113, 114, 115, 116, 117, 118, 119]) (fun ⟨m36, v30, x31, x32⟩ => [(5, v30), (6, (.int .i64 (x32)))]) (fun ⟨m36, v30, x31, x32⟩ w => SH w0 M BE w (hset [(3, .rd rStr u18 x16), (7, .own rProc 52 v30 x31)]) ∧ again (wandererref_CodeRead_b122 N x16) m36 (x31, x32) = some r) (fun ⟨m36, v30, x31, x32⟩ => m36) ⟨N, (.slice none 0 0), [], 0⟩ ⟨rfl, rfl, trivial⟩ ?_ ?_
  ·
   exact ⟨h.cn _, hs⟩
  ·
   rintro ⟨m36, v30, x31, x32⟩ w junk ⟨h, hs⟩
   obtain ⟨m361, m36e, m36h⟩ := again_pos hs
   subst m36e
   replace hs := m36h
   generalize hnx37 : again (wandererref_CodeRead_b122 N x16) m361 = nx37 at hs
   refine wc_seq (wc_seq (wc_region (wl_ok (r_move (v := (.int .i64 (x32))) rfl) (wl_ok (r_move (v := u18) rfl) (wl_ok (r_len SliceOf68 rfl (h.rdS 3 rfl)) (wl_ok (r_lss rfl rfl) (wl_nil (then_normal (wc_ifb hs rfl (fun c40 hs => ?_) (fun c40 hs => ?_))))))))))
   ·
    refine wc_skip (then_normal (wc_seq (wc_block (wc_seq (wc_region (wl_ok (r_move (v := u18) rfl) (wl_ok (r_move (v := (.int .i64 (x32))) rfl) ?_)))))))
    obtain ⟨x41, e42, hs⟩ := o_bind hs
    obtain ⟨b44, o45, cs46, h, r47, i43⟩ := h.ixR 3 8 rfl SliceOf68 rfl (o_idx e42).1 (o_idx e42).2
    obtain rfl := r47
    refine wl_ok (i43 _ _ _ _ _ _ _ _ _ rfl rfl) (wl_ok (r_ldP (k := 0) h 8 rfl One9 rfl rfl) ?_)
    obtain ⟨y48, e49, hs⟩ := o_bind hs
    refine w_call fnOk36 rfl rfl (wandererref_numbers_c _ _ h.lt (hT.go h.keep) x41 _ e49) ?_
    rintro _ w ⟨k53, u50, rfl, g51, g52⟩
    refine ⟨_, rfl, ?_⟩
    replace h := h.gotOwn 9 k53 g51 g52
    refine wl_ok (r_move (v := (.tuple #[u50, (.bool (y48.2))])) rfl) (wl_ok (r_extract rfl rfl) (wl_ok (r_extract rfl rfl) (wl_ok (r_assign (v := u50) rfl) (wl_ok (r_assign (v := (.bool (y48.2))) rfl) (wl_nil (then_normal (wc_seq (wc_join (σ := Bool) (inl [41, 42, 43, 44, 45, 46, 47, 48, 49, 50, 51, 52, 53, 54, 55, 56, 57, 58, 59, 60, 61, 62, 63, 64, 65]) (fun x54 => [(44, (gv ((!y48.2) == false) u50)), (45, (gv ((!y48.2) == false) (.int .i64 ((y48.1.length : Int))))), (46, (gv ((!y48.2) == false) (.bool (decide (((y48.1.length : Int) : Int) ≠ 3))))), (65, (.bool (x54)))]) (fun x54 w => SH w0 M BE w (hset [(3, .rd rStr u18 x16), (7, .own rProc 52 v30 x31), (9, .own rInt 3 u50 y48.1)]) ∧ wandererref_CodeRead_j113 N y48 x16 x31 nx37 x32 x54 = some r) ?_ ?_))))))))
    ·
     rintro x54 w junk ⟨h, hs⟩
     refine wc_ifb hs rfl (fun c55 hs => ?_) (fun c55 hs => ?_)
     ·
      refine wc_seq (wc_region (wl_ok (r_assign (v := (.slice none 0 0)) rfl) (wl_ok (r_assign (v := (.int .i64 (1))) rfl) (wl_nil (then_normal (wc_ret (then_ret (inBlock_ret (then_ret (then_ret (inBlock_ret (then_ret (fin2 (v1 := (.slice none 0 0)) (v2 := (.int .i64 (1))) Tryd.results12 rfl rfl ?_)))))))))))))
      obtain rfl := Option.some.inj hs
      exact ⟨h.grown, _, rfl, OwnSl.nil, fresh_nil⟩
     ·
      refine wc_skip (then_normal (wc_seq (wc_held mixed h fun w h => wh_ok 0 (Keep.refl BE _) rfl want_none (by kernel_rfl) (by kernel_rfl) (by kernel_rfl) (fun w hk => r_move (v := u50) rfl) ?_)))
      obtain ⟨xq56x1_1, eq56x1_2, hs⟩ := o_bind hs
      obtain ⟨bq56x1_4, qq56x1_5, iq56x1_3⟩ := h.ixO 9 rfl SliceOf43 rfl (o_idx eq56x1_2).1 (o_idx eq56x1_2).2
      refine wh_ok 1 (Keep.refl BE _) rfl want_none (by kernel_rfl) (by kernel_rfl) (by kernel_rfl) (fun w hk => iq56x1_3 _ _ _ _ _ _ _ _ _ rfl rfl) ?_
      obtain ⟨csq56x2_1, mq56x2_2, rq56x2_3⟩ := h.elO 9 rfl qq56x1_5 (o_idx eq56x1_2).2
      obtain rfl := rq56x2_3
      refine wh_ok 2 (Keep.refl BE _) rfl want_none (by kernel_rfl) (by kernel_rfl) (by kernel_rfl) (fun w hk => have h := h.grow hk; r_ldA (k := 0) (mq56x2_2.grow hk) One3 rfl rfl) (wh_ok 3 (Keep.refl BE _) rfl want_none (by kernel_rfl) (by kernel_rfl) (by kernel_rfl) (fun w hk => r_move (v := u50) rfl) ?_)
      obtain ⟨xq56x4_1, eq56x4_2, hs⟩ := o_bind hs
      obtain ⟨bq56x4_4, qq56x4_5, iq56x4_3⟩ := h.ixO 9 rfl SliceOf43 rfl (o_idx eq56x4_2).1 (o_idx eq56x4_2).2
      refine wh_ok 4 (Keep.refl BE _) rfl want_none (by kernel_rfl) (by kernel_rfl) (by kernel_rfl) (fun w hk => iq56x4_3 _ _ _ _ _ _ _ _ _ rfl rfl) ?_
      obtain ⟨csq56x5_1, mq56x5_2, rq56x5_3⟩ := h.elO 9 rfl qq56x4_5 (o_idx eq56x4_2).2
      obtain rfl := rq56x5_3
      refine wh_ok 5 (Keep.refl BE _) rfl want_none (by kernel_rfl) (by kernel_rfl) (by kernel_rfl) (fun w hk => have h := h.grow hk; r_ldA (k := 0) (mq56x5_2.grow hk) One3 rfl rfl) (wh_ok 6 (Keep.refl BE _) rfl want_none (by kernel_rfl) (by kernel_rfl) (by kernel_rfl) (fun w hk => r_build (pv := [(0, (.int .i64 (xq56x1_1))), (1, (.int .i64 (xq56x4_1)))]) (out := [(.int .i64 (xq56x1_1)), (.int .i64 (xq56x4_1)), (.slice none 0 0)]) Struct52 rfl ⟨0, 1, [(.int .i64 (xq56x1_1))], rfl, rfl, rfl, Nat.le_of_ble_eq_true rfl, ⟨1, 1, [(.int .i64 (xq56x4_1))], rfl, rfl, rfl, Nat.le_of_ble_eq_true rfl, rfl⟩⟩) ?_)
      obtain ⟨ws57, ws57e⟩ : ∃ x, x = w := ⟨_, rfl⟩
      have hg58 : Grow ws57 w := ws57e ▸ Keep.refl BE w
      refine wh_at ws57e.symm (wh_eff 7 (by kernel_rfl) rfl want_none (w_allocNG h 94 Many52 fun w bq56x7_1 h bq56x7_1k bq56x7_1f => ?_))
      have bq56x7_1q : ws57.heap.size ≤ bq56x7_1 := Nat.le_trans hg58.size bq56x7_1f
      replace hg58 := hg58.trans bq56x7_1k
      refine wl_nil (wh_back hg58 (wh_eff 8 (by kernel_rfl) rfl want_none (w_stNG (vs := [(.int .i64 (xq56x1_1)), (.int .i64 (xq56x4_1)), (.slice none 0 0)]) h 94 [(.int .i64 (xq56x1_1)), (.int .i64 (xq56x4_1)), (.slice none 0 0)] rfl Many52 rfl rfl rfl rfl rfl (ones_cons rfl (ones_cons rfl (ones_cons rfl ones_nil))) fun w h kq56x8_1 => ?_)))
      replace hg58 := hg58.fresh kq56x8_1 (fun x hx => hx ▸ bq56x7_1q)
      refine wl_nil (wh_back hg58 (wh_done (by kernel_rfl) (then_normal (wc_seq (wc_seq (wc_region (wl_ok (r_move (v := u50) rfl) ?_)))))))
      obtain ⟨x59, e60, hs⟩ := o_bind hs
      obtain ⟨b62, q63, i61⟩ := h.ixO 9 rfl SliceOf43 rfl (o_idx e60).1 (o_idx e60).2
      refine wl_ok (i61 _ _ _ _ _ _ _ _ _ rfl rfl) ?_
      obtain ⟨cs64, m65, r66⟩ := h.elO 9 rfl q63 (o_idx e60).2
      obtain rfl := r66
      refine wl_ok (r_ldA (k := 0) m65 One3 rfl rfl) (wl_ok (r_move (v := (.int .i64 (0))) rfl) (wl_nil (then_normal (wc_block ?_))))
      replace h := h.nilO (R := rIns) (E := 54) 133
      refine wc_lp (σ := Nat × Int × Int × Value × List Ins) (inl [2, 3, 6, 10, 11, 76, 77, 78, 79, 80, 81, 82, 83, 84, 85, 86, 87, 88, 89, 90, 91, 92, 93, 94, 95, 96, 97, 98, 99, 100, 101, 102, 103, 104, 105, 106, 107, 108, 109, 110, 111, 112, 113, 114, 115]) (fun ⟨m86, x79, x80, v81, y82⟩ => [(6, (.int .i64 (x79))), (76, (.int .i64 (x80)))]) (fun ⟨m86, x79, x80, v81, y82⟩ w => SH w0 M BE w (hset [(3, .rd rStr u18 x16), (7, .own rProc 52 v30 x31), (9, .own rInt 3 u50 y48.1), (94, .blk bq56x7_1 [(.int .i64 (xq56x1_1)), (.int .i64 (xq56x4_1)), v81]), (133, .own rIns 54 v81 y82)]) ∧ again (wandererref_CodeRead_b121 x59 x16 x31 xq56x1_1 xq56x4_1 nx37) m86 (x79, x80, y82) = some r) (fun ⟨m86, x79, x80, v81, y82⟩ => m86) ⟨N, x32, 0, (.slice none 0 0), []⟩ ⟨rfl, rfl, trivial⟩ ?_ ?_
      ·
       exact ⟨h.cn _, hs⟩
      ·
       rintro ⟨m86, x79, x80, v81, y82⟩ w junk ⟨h, hs⟩
       obtain ⟨m861, m86e, m86h⟩ := again_pos hs
       subst m86e
       replace hs := m86h
       generalize hnx87 : again (wandererref_CodeRead_b121 x59 x16 x31 xq56x1_1 xq56x4_1 nx37) m861 = nx87 at hs
       refine wc_seq (wc_region (wl_ok (r_lss rfl rfl) (wl_nil (then_normal (wc_seq (wc_ifb hs rfl (fun c90 hs => ?_) (fun c90 hs => ?_)))))))
       ·
        refine wc_skip (then_normal (wc_join (σ := Value × List Ins) (inl [2, 3, 6, 10, 11, 78, 79, 80, 81, 82, 83, 84, 85, 86, 87, 88, 89, 90, 91, 92, 93, 94, 95, 96, 97, 98, 99, 100, 101, 102, 103, 104, 105, 106, 107, 108, 109, 110, 111, 112, 113, 114]) (fun ⟨v91, y92⟩ => [(6, (.int .i64 ((x79 + 1))))]) (fun ⟨v91, y92⟩ w => SH w0 M BE w (hset [(3, .rd rStr u18 x16), (7, .own rProc 52 v30 x31), (9, .own rInt 3 u50 y48.1), (94, .blk bq56x7_1 [(.int .i64 (xq56x1_1)), (.int .i64 (xq56x4_1)), v91]), (133, .own rIns 54 v91 y92)]) ∧ wandererref_CodeRead_j120 x80 nx87 x79 y92 = some r) ?_ ?_))
        ·
         rintro ⟨v91, y92⟩ w junk ⟨h, hs⟩
         refine wc_region ?_
         obtain ⟨a93, hs⟩ := o_grd hs
         refine wl_ok (r_add rfl rfl a93) (wl_ok (r_move (v := (.int .i64 ((x80 + 1)))) rfl) (wl_nil (then_loop ?_)))
         subst hnx87
         exact lend ⟨m861, (x79 + 1), (x80 + 1), v91, y92⟩ ⟨h.cn _, hs⟩
        ·
         refine wc_block (wc_seq (wc_region (wl_ok (r_move (v := (.int .i64 (x79))) rfl) ?_)))
         obtain ⟨a94, hs⟩ := o_grd hs
         refine wl_ok (r_add rfl rfl a94) (wl_ok (r_assign (v := (.int .i64 ((x79 + 1)))) rfl) (wl_nil (then_normal (wc_seq (wc_region (wl_ok (r_move (v := u18) rfl) (wl_ok (r_move (v := (.int .i64 ((x79 + 1)))) rfl) ?_)))))))
         obtain ⟨x95, e96, hs⟩ := o_bind hs
         obtain ⟨b98, o99, cs100, h, r101, i97⟩ := h.ixR 3 134 rfl SliceOf68 rfl (o_idx e96).1 (o_idx e96).2
         obtain rfl := r101
         refine wl_ok (i97 _ _ _ _ _ _ _ _ _ rfl rfl) (wl_ok (r_ldP (k := 0) h 134 rfl One9 rfl rfl) ?_)
         obtain ⟨y102, e103, hs⟩ := o_bind hs
         refine w_call fnOk36 rfl rfl (wandererref_numbers_c _ _ h.lt (hT.go h.keep) x95 _ e103) ?_
         rintro _ w ⟨k107, u104, rfl, g105, g106⟩
         refine ⟨_, rfl, ?_⟩
         replace h := h.gotOwn 135 k107 g105 g106
         refine wl_ok (r_move (v := (.tuple #[u104, (.bool (y102.2))])) rfl) (wl_ok (r_extract rfl rfl) (wl_ok (r_extract rfl rfl) (wl_ok (r_assign (v := u104) rfl) (wl_ok (r_assign (v := (.bool (y102.2))) rfl) (wl_nil (then_normal (wc_seq (wc_seq (wc_region (wl_ok (r_move (v := (.bool (y102.2))) rfl) (wl_ok (r_notb rfl) (wl_ok (r_move (v := (.bool ((!y102.2)))) rfl) (wl_gd0 rfl rfl (fun q => r_move (v := u104) rfl) (wl_gd0 rfl rfl (fun q => r_len SliceOf43 (gvt q) (h.ownS 135 rfl)) (wl_gd0 rfl rfl (fun q => r_lss (gvt q) rfl) (wl_ok (r_por rfl rfl evc) (wl_nil (then_normal (wc_ifb hs rfl (fun c108 hs => ?_) (fun c108 hs => ?_))))))))))))))))))))
         ·
          refine wc_seq (wc_region (wl_ok (r_assign (v := (.slice none 0 0)) rfl) (wl_ok (r_assign (v := (.int .i64 (1))) rfl) (wl_nil (then_normal (wc_ret (then_ret (inBlock_ret (then_ret (then_ret (inBlock_ret (then_ret (inBlock_ret (then_ret (then_ret (inBlock_ret (then_ret (fin2 (v1 := (.slice none 0 0)) (v2 := (.int .i64 (1))) Tryd.results12 rfl rfl ?_))))))))))))))))))
          obtain rfl := Option.some.inj hs
          exact ⟨h.grown, _, rfl, OwnSl.nil, fresh_nil⟩
         ·
          refine wc_skip (then_normal (wck_held (L := (fun b => ob v81 b ∨ b = bq56x7_1)) mixed h fun w h => whk_ok 0 (Keep.refl _ _) rfl want_none (by kernel_rfl) (by kernel_rfl) (by kernel_rfl) (fun w hk => r_fieldAddr Fld52x2 rfl) (whk_ok 2 (Keep.refl _ _) rfl want_none (by kernel_rfl) (by kernel_rfl) (by kernel_rfl) (fun w hk => r_move (v := u104) rfl) ?_)))
          obtain ⟨xq116x3_1, eq116x3_2, hs⟩ := o_bind hs
          obtain ⟨bq116x3_4, qq116x3_5, iq116x3_3⟩ := h.ixO 135 rfl SliceOf43 rfl (o_idx eq116x3_2).1 (o_idx eq116x3_2).2
          refine whk_ok 3 (Keep.refl _ _) rfl want_none (by kernel_rfl) (by kernel_rfl) (by kernel_rfl) (fun w hk => iq116x3_3 _ _ _ _ _ _ _ _ _ rfl rfl) ?_
          obtain ⟨csq116x4_1, mq116x4_2, rq116x4_3⟩ := h.elO 135 rfl qq116x3_5 (o_idx eq116x3_2).2
          obtain rfl := rq116x4_3
          have nq116x4_4 : ¬ (ob v81 _ ∨ _ = bq56x7_1) := fun e => e.elim (h.apart 135 133 (by decide) _ qq116x3_5) (h.apart 135 94 (by decide) _ qq116x3_5)
          refine whk_ok 4 (Keep.refl _ _) rfl want_none (by kernel_rfl) (by kernel_rfl) (by kernel_rfl) (fun w hk => have h := h.loseC2 133 94 (by decide) rfl rfl hk; r_ldA (k := 0) (mq116x4_2.hold hk nq116x4_4) One3 rfl rfl) (whk_ok 5 (Keep.refl _ _) rfl want_none (by kernel_rfl) (by kernel_rfl) (by kernel_rfl) (fun w hk => r_move (v := u104) rfl) ?_)
          obtain ⟨xq116x6_1, eq116x6_2, hs⟩ := o_bind hs
          obtain ⟨bq116x6_4, qq116x6_5, iq116x6_3⟩ := h.ixO 135 rfl SliceOf43 rfl (o_idx eq116x6_2).1 (o_idx eq116x6_2).2
          refine whk_ok 6 (Keep.refl _ _) rfl want_none (by kernel_rfl) (by kernel_rfl) (by kernel_rfl) (fun w hk => iq116x6_3 _ _ _ _ _ _ _ _ _ rfl rfl) ?_
          obtain ⟨csq116x7_1, mq116x7_2, rq116x7_3⟩ := h.elO 135 rfl qq116x6_5 (o_idx eq116x6_2).2
          obtain rfl := rq116x7_3
          have nq116x7_4 : ¬ (ob v81 _ ∨ _ = bq56x7_1) := fun e => e.elim (h.apart 135 133 (by decide) _ qq116x6_5) (h.apart 135 94 (by decide) _ qq116x6_5)
          refine whk_ok 7 (Keep.refl _ _) rfl want_none (by kernel_rfl) (by kernel_rfl) (by kernel_rfl) (fun w hk => have h := h.loseC2 133 94 (by decide) rfl rfl hk; r_ldA (k := 0) (mq116x7_2.hold hk nq116x7_4) One3 rfl rfl) (whk_ok 8 (Keep.refl _ _) rfl want_none (by kernel_rfl) (by kernel_rfl) (by kernel_rfl) (fun w hk => r_move (v := u104) rfl) ?_)
          obtain ⟨xq116x9_1, eq116x9_2, hs⟩ := o_bind hs
          obtain ⟨bq116x9_4, qq116x9_5, iq116x9_3⟩ := h.ixO 135 rfl SliceOf43 rfl (o_idx eq116x9_2).1 (o_idx eq116x9_2).2
          refine whk_ok 9 (Keep.refl _ _) rfl want_none (by kernel_rfl) (by kernel_rfl) (by kernel_rfl) (fun w hk => iq116x9_3 _ _ _ _ _ _ _ _ _ rfl rfl) ?_
          obtain ⟨csq116x10_1, mq116x10_2, rq116x10_3⟩ := h.elO 135 rfl qq116x9_5 (o_idx eq116x9_2).2
          obtain rfl := rq116x10_3
          have nq116x10_4 : ¬ (ob v81 _ ∨ _ = bq56x7_1) := fun e => e.elim (h.apart 135 133 (by decide) _ qq116x9_5) (h.apart 135 94 (by decide) _ qq116x9_5)
          refine whk_ok 10 (Keep.refl _ _) rfl want_none (by kernel_rfl) (by kernel_rfl) (by kernel_rfl) (fun w hk => have h := h.loseC2 133 94 (by decide) rfl rfl hk; r_ldA (k := 0) (mq116x10_2.hold hk nq116x10_4) One3 rfl rfl) (whk_ok 11 (Keep.refl _ _) rfl want_none (by kernel_rfl) (by kernel_rfl) (by kernel_rfl) (fun w hk => r_move (v := u104) rfl) ?_)
          obtain ⟨xq116x12_1, eq116x12_2, hs⟩ := o_bind hs
          obtain ⟨bq116x12_4, qq116x12_5, iq116x12_3⟩ := h.ixO 135 rfl SliceOf43 rfl (o_idx eq116x12_2).1 (o_idx eq116x12_2).2
          refine whk_ok 12 (Keep.refl _ _) rfl want_none (by kernel_rfl) (by kernel_rfl) (by kernel_rfl) (fun w hk => iq116x12_3 _ _ _ _ _ _ _ _ _ rfl rfl) ?_
          obtain ⟨csq116x13_1, mq116x13_2, rq116x13_3⟩ := h.elO 135 rfl qq116x12_5 (o_idx eq116x12_2).2
          obtain rfl := rq116x13_3
          have nq116x13_4 : ¬ (ob v81 _ ∨ _ = bq56x7_1) := fun e => e.elim (h.apart 135 133 (by decide) _ qq116x12_5) (h.apart 135 94 (by decide) _ qq116x12_5)
          refine whk_ok 13 (Keep.refl _ _) rfl want_none (by kernel_rfl) (by kernel_rfl) (by kernel_rfl) (fun w hk => have h := h.loseC2 133 94 (by decide) rfl rfl hk; r_ldA (k := 0) (mq116x13_2.hold hk nq116x13_4) One3 rfl rfl) (whk_ok 14 (Keep.refl _ _) rfl want_none (by kernel_rfl) (by kernel_rfl) (by kernel_rfl) (fun w hk => r_move (v := u104) rfl) ?_)
          obtain ⟨xq116x15_1, eq116x15_2, hs⟩ := o_bind hs
          obtain ⟨eq116x15_5, eq116x15_5a, eq116x15_5b, eq116x15_5c⟩ := o_sub eq116x15_2
          replace h := h.freeze 135 rfl
          obtain ⟨uq116x15_3, h, iq116x15_4⟩ := h.slR 135 316 rfl SliceOf43 rfl eq116x15_5a eq116x15_5b eq116x15_5c
          rw [← eq116x15_5] at h
          refine whk_ok 15 (Keep.refl _ _) rfl want_none (by kernel_rfl) (by kernel_rfl) (by kernel_rfl) (fun w hk => iq116x15_4 _ _ _ _ _ _ _ _ _ _ rfl (.inr (congrArg some rfl)) (.inl ⟨rfl, rfl⟩)) (whk_ok 16 (Keep.refl _ _) rfl want_none (by kernel_rfl) (by kernel_rfl) (by kernel_rfl) (fun w hk => r_build (pv := [(0, (.int .i64 (xq116x3_1))), (1, (.int .i64 (xq116x6_1))), (2, (.int .i64 (xq116x9_1))), (3, (.int .i64 (xq116x12_1))), (4, uq116x15_3)]) (out := [(.int .i64 (xq116x3_1)), (.int .i64 (xq116x6_1)), (.int .i64 (xq116x9_1)), (.int .i64 (xq116x12_1)), uq116x15_3]) Struct54 rfl ⟨0, 1, [(.int .i64 (xq116x3_1))], rfl, rfl, rfl, Nat.le_of_ble_eq_true rfl, ⟨1, 1, [(.int .i64 (xq116x6_1))], rfl, rfl, rfl, Nat.le_of_ble_eq_true rfl, ⟨2, 1, [(.int .i64 (xq116x9_1))], rfl, rfl, rfl, Nat.le_of_ble_eq_true rfl, ⟨3, 1, [(.int .i64 (xq116x12_1))], rfl, rfl, rfl, Nat.le_of_ble_eq_true rfl, ⟨4, 1, [uq116x15_3], rfl, (toList_of_one (h.rdAt 316 rfl).one), rfl, Nat.le_of_ble_eq_true rfl, rfl⟩⟩⟩⟩⟩) ?_)
          obtain ⟨aq116x18_1, hs⟩ := o_grd hs
          obtain ⟨ws117, ws117e⟩ : ∃ x, x = w := ⟨_, rfl⟩
          have hg118 : Keep (fun b => ob v81 b ∨ b = bq56x7_1) ws117 w := ws117e ▸ Keep.refl (fun b => ob v81 b ∨ b = bq56x7_1) w
          refine whk_at ws117e.symm (whk_eff2 1 17 (by kernel_rfl) rfl want_none rfl want_none ?_ ?_)
          ·
           refine wl_ok (r_ldB h 94 rfl One50 rfl rfl) (wl_nil (whk_back hg118 (whk_eff 17 (by kernel_rfl) rfl want_none (w_bsG (R := rIns) (vs := [(.agg #[(.int .i64 (xq116x3_1)), (.int .i64 (xq116x6_1)), (.int .i64 (xq116x9_1)), (.int .i64 (xq116x12_1)), uq116x15_3])]) (xs := [(⟨xq116x3_1, xq116x6_1, xq116x9_1, xq116x12_1, xq116x15_1⟩ : Ins)]) h 340 ElemOf50 rfl rfl rfl ⟨⟨_, rfl, (h.rdAt 316 rfl)⟩, trivial⟩ rfl fun w uq116x17_1 h uq116x17_1k uq116x17_1f => ?_))))
           have uq116x17_1q : ∀ b, ob uq116x17_1 b → ws117.heap.size ≤ b := fun b hb => Nat.le_trans hg118.size (uq116x17_1f b hb)
           replace hg118 := hg118.grow uq116x17_1k
           refine wl_nil (whk_back hg118 (whk_eff 18 (by kernel_rfl) rfl want_none ?_))
           have uq116x18_2z := hg118.size
           refine w_appGN (R := rIns) (m := [(⟨xq116x3_1, xq116x6_1, xq116x9_1, xq116x12_1, xq116x15_1⟩ : Ins)]) h 133 rfl (h.ownS 340 rfl) ElemOf50 rfl rfl rfl aq116x18_1.1 aq116x18_1.2 fun w uq116x18_2 h uq116x18_2k uq116x18_2n => ?_
           replace hg118 := Keep.step hg118 uq116x18_2k (fun _ hx _ => .inl hx)
           refine wl_nil (whk_back hg118 (whk_ok 19 hg118 rfl want_none (by kernel_rfl) (by kernel_rfl) (by kernel_rfl) (fun w hk => r_fieldAddr Fld52x2 rfl) (whk_eff 20 (by kernel_rfl) rfl want_none (w_st1G h 94 [(.int .i64 (xq56x1_1)), (.int .i64 (xq56x4_1)), uq116x18_2] rfl One50 rfl rfl rfl rfl (h.ownAt 133 rfl).one fun w h kq116x20_1 => ?_))))
           replace hg118 := Keep.step hg118 kq116x20_1 (fun _ hx _ => .inr hx)
           refine wl_nil (whk_back hg118 (whk_done (by kernel_rfl) (inBlock_normal (then_loop ?_))))
           exact jend (uq116x18_2, (y82 ++ [(⟨xq116x3_1, xq116x6_1, xq116x9_1, xq116x12_1, xq116x15_1⟩ : Ins)])) ⟨h.cn _, hs⟩
          ·
           refine w_bsG (R := rIns) (vs := [(.agg #[(.int .i64 (xq116x3_1)), (.int .i64 (xq116x6_1)), (.int .i64 (xq116x9_1)), (.int .i64 (xq116x12_1)), uq116x15_3])]) (xs := [(⟨xq116x3_1, xq116x6_1, xq116x9_1, xq116x12_1, xq116x15_1⟩ : Ins)]) h 340 ElemOf50 rfl rfl rfl ⟨⟨_, rfl, (h.rdAt 316 rfl)⟩, trivial⟩ rfl fun w uq116x17_1 h uq116x17_1k uq116x17_1f => ?_
           have uq116x17_1q : ∀ b, ob uq116x17_1 b → ws117.heap.size ≤ b := fun b hb => Nat.le_trans hg118.size (uq116x17_1f b hb)
           replace hg118 := hg118.grow uq116x17_1k
           refine wl_nil (whk_back hg118 (whk_eff 1 (by kernel_rfl) rfl want_none (wl_ok (r_ldB h 94 rfl One50 rfl rfl) (wl_nil (whk_back hg118 (whk_eff 18 (by kernel_rfl) rfl want_none ?_))))))
           have uq116x18_2z := hg118.size
           refine w_appGN (R := rIns) (m := [(⟨xq116x3_1, xq116x6_1, xq116x9_1, xq116x12_1, xq116x15_1⟩ : Ins)]) h 133 rfl (h.ownS 340 rfl) ElemOf50 rfl rfl rfl aq116x18_1.1 aq116x18_1.2 fun w uq116x18_2 h uq116x18_2k uq116x18_2n => ?_
           replace hg118 := Keep.step hg118 uq116x18_2k (fun _ hx _ => .inl hx)
           refine wl_nil (whk_back hg118 (whk_ok 19 hg118 rfl want_none (by kernel_rfl) (by kernel_rfl) (by kernel_rfl) (fun w hk => r_fieldAddr Fld52x2 rfl) (whk_eff 20 (by kernel_rfl) rfl want_none (w_st1G h 94 [(.int .i64 (xq56x1_1)), (.int .i64 (xq56x4_1)), uq116x18_2] rfl One50 rfl rfl rfl rfl (h.ownAt 133 rfl).one fun w h kq116x20_1 => ?_))))
           replace hg118 := Keep.step hg118 kq116x20_1 (fun _ hx _ => .inr hx)
           refine wl_nil (whk_back hg118 (whk_done (by kernel_rfl) (inBlock_normal (then_loop ?_))))
           exact jend (uq116x18_2, (y82 ++ [(⟨xq116x3_1, xq116x6_1, xq116x9_1, xq116x12_1, xq116x15_1⟩ : Ins)])) ⟨h.cn _, hs⟩
       ·
        refine wc_exit (then_exit (then_exit (inBlock_eq (then_normal (wc_region (wl_ok (r_move (v := v30) rfl) (wl_ok (r_ldBN (vs := [(.int .i64 (xq56x1_1)), (.int .i64 (xq56x4_1)), v81]) h 94 rfl Many52 rfl rfl rfl) ?_)))))))
        replace h := h.freeze 133 rfl
        refine w_bs (R := rProc) (vs := [(.agg #[(.int .i64 (xq56x1_1)), (.int .i64 (xq56x4_1)), v81])]) (xs := [(⟨xq56x1_1, xq56x4_1, y82⟩ : Proc)]) h 400 ElemOf22 rfl rfl rfl ⟨⟨_, rfl, (h.rdAt 133 rfl)⟩, trivial⟩ rfl fun w u119 h => ?_
        obtain ⟨a120, hs⟩ := o_grd hs
        refine w_app (R := rProc) (m := [(⟨xq56x1_1, xq56x4_1, y82⟩ : Proc)]) h 7 rfl (h.ownS 400 rfl) ElemOf22 rfl rfl rfl a120.1 a120.2 fun w u121 h => wl_ok (r_assign (v := u121) rfl) (wl_nil (inBlock_normal (then_normal (wc_region (wl_ok (r_move (v := (.int .i64 (x79))) rfl) ?_)))))
        obtain ⟨a122, hs⟩ := o_grd hs
        refine wl_ok (r_add rfl rfl a122) (wl_ok (r_assign (v := (.int .i64 ((x79 + 1)))) rfl) (wl_nil (then_loop ?_)))
        subst hnx37
        exact lend ⟨m361, u121, (x31 ++ [(⟨xq56x1_1, xq56x4_1, y82⟩ : Proc)]), (x79 + 1)⟩ ⟨h.cn _, hs⟩
    ·
     refine wc_region (wl_ok (r_move (v := (.bool (y48.2))) rfl) (wl_ok (r_notb rfl) (wl_ok (r_move (v := (.bool ((!y48.2)))) rfl) (wl_gd0 rfl rfl (fun q => r_move (v := u50) rfl) (wl_gd0 rfl rfl (fun q => r_len SliceOf43 (gvt q) (h.ownS 9 rfl)) (wl_gd0 rfl rfl (fun q => r_neq (gvt q) rfl) (wl_ok (r_por rfl rfl evc) (wl_ok (r_move (v := (.bool (((!y48.2) || decide (((y48.1.length : Int) : Int) ≠ 3))))) rfl) (c_split (b := ((!y48.2) || decide (((y48.1.length : Int) : Int) ≠ 3))) hs (fun c123 hs => ?_) (fun c123 hs => ?_))))))))))
     ·
      refine wl_off (b' := true) rfl (congrArg Value.bool c123) rfl (wl_off (b' := true) rfl (congrArg Value.bool c123) rfl (wl_off (b' := true) rfl (congrArg Value.bool c123) rfl (wl_off (b' := true) rfl (congrArg Value.bool c123) rfl (wl_off (b' := true) rfl (congrArg Value.bool c123) rfl (wl_ok (r_pick (b := true) (v := (.bool (true))) (congrArg Value.bool c123) rfl) (wl_ok (r_move (v := (.bool (true))) rfl) (wl_off (b' := true) rfl rfl rfl (wl_off (b' := true) rfl rfl rfl (wl_off (b' := true) rfl rfl rfl (wl_off (b' := true) rfl rfl rfl (wl_off (b' := true) rfl rfl rfl (wl_off (b' := true) rfl rfl rfl (wl_off (b' := true) rfl rfl rfl (wl_off (b' := true) rfl rfl rfl (wl_off (b' := true) rfl rfl rfl (wl_ok (r_pick (b := true) (v := (.bool (true))) rfl rfl) (wl_nil (then_loop ?_))))))))))))))))))
      exact jend true ⟨h.cn _, hs⟩
     ·
      refine wl_on rfl (congrArg Value.bool c123) (wl_ok (r_move (v := u50) rfl) (wl_on rfl (congrArg Value.bool c123) ?_))
      obtain ⟨x124, e125, hs⟩ := o_bind hs
      obtain ⟨b127, q128, i126⟩ := h.ixO 9 rfl SliceOf43 rfl (o_idx e125).1 (o_idx e125).2
      refine wl_ok (i126 _ _ _ _ _ _ _ _ _ rfl rfl) (wl_on rfl (congrArg Value.bool c123) ?_)
      obtain ⟨cs129, m130, r131⟩ := h.elO 9 rfl q128 (o_idx e125).2
      obtain rfl := r131
      refine wl_ok (r_ldA (k := 0) m130 One3 rfl rfl) (wl_on rfl (congrArg Value.bool c123) (w_call fnOk30 rfl rfl (wandererref_in_c _ _ h.lt x124 1 2000 _ rfl) ?_))
      rintro _ w ⟨k132, rfl⟩
      refine ⟨_, rfl, ?_⟩
      replace h := h.grow k132
      refine wl_on rfl (congrArg Value.bool c123) (wl_ok (r_notb rfl) (wl_ok (r_pick (b := false) (v := (.bool ((!(wandererref_in x124 1 2000))))) (congrArg Value.bool c123) rfl) (wl_ok (r_move (v := (.bool ((!(wandererref_in x124 1 2000))))) rfl) (c_split (b := (!(wandererref_in x124 1 2000))) hs (fun c136 hs => ?_) (fun c136 hs => ?_)))))
      ·
       refine wl_off (b' := true) rfl (congrArg Value.bool c136) rfl (wl_off (b' := true) rfl (congrArg Value.bool c136) rfl (wl_off (b' := true) rfl (congrArg Value.bool c136) rfl (wl_off (b' := true) rfl (congrArg Value.bool c136) rfl (wl_off (b' := true) rfl (congrArg Value.bool c136) rfl (wl_off (b' := true) rfl (congrArg Value.bool c136) rfl (wl_off (b' := true) rfl (congrArg Value.bool c136) rfl (wl_off (b' := true) rfl (congrArg Value.bool c136) rfl (wl_off (b' := true) rfl (congrArg Value.bool c136) rfl (wl_ok (r_pick (b := true) (v := (.bool (true))) (congrArg Value.bool c136) rfl) (wl_nil (then_loop ?_)))))))))))
       exact jend true ⟨h.cn _, hs⟩
      ·
       refine wl_on rfl (congrArg Value.bool c136) (wl_ok (r_move (v := u50) rfl) (wl_on rfl (congrArg Value.bool c136) ?_))
       obtain ⟨b138, q139, i137⟩ := h.ixO 9 rfl SliceOf43 rfl (o_idx e125).1 (o_idx e125).2
       refine wl_ok (i137 _ _ _ _ _ _ _ _ _ rfl rfl) (wl_on rfl (congrArg Value.bool c136) ?_)
       obtain ⟨cs140, m141, r142⟩ := h.elO 9 rfl q139 (o_idx e125).2
       obtain rfl := r142
       refine wl_ok (r_ldA (k := 0) m141 One3 rfl rfl) (wl_on rfl (congrArg Value.bool c136) (wl_ok (r_move (v := u18) rfl) (wl_on rfl (congrArg Value.bool c136) (wl_ok (r_len SliceOf68 rfl (h.rdS 3 rfl)) (wl_on rfl (congrArg Value.bool c136) ?_)))))
       obtain ⟨a143, hs⟩ := o_grd hs
       refine wl_ok (r_sub rfl rfl a143) (wl_on rfl (congrArg Value.bool c136) (wl_ok (r_move (v := (.int .i64 (x32))) rfl) (wl_on rfl (congrArg Value.bool c136) ?_)))
       obtain ⟨a144, hs⟩ := o_grd hs
       refine wl_ok (r_sub rfl rfl a144) (wl_on rfl (congrArg Value.bool c136) (wl_ok (r_gtr rfl rfl) (wl_ok (r_pick (b := false) (v := (.bool (decide (((((x16.length : Int) - 1) - x32) : Int) < x124)))) (congrArg Value.bool c136) rfl) (wl_nil (then_loop ?_)))))
       exact jend (decide (((((x16.length : Int) - 1) - x32) : Int) < x124)) ⟨h.cn _, hs⟩
   ·
    refine wc_exit (then_exit (then_exit (inBlock_eq (then_normal (wc_seq (wc_seq (wc_region (wl_ok (r_move (v := v30) rfl) ?_))))))))
    obtain ⟨y145, e146, hs⟩ := o_bind hs
    refine w_call fnOk10 rfl rfl (wandererref_CheckCode_c _ _ h.lt v30 x31 (h.ownS 7 rfl) _ e146) ?_
    rintro _ w ⟨k147, rfl⟩
    refine ⟨_, rfl, ?_⟩
    replace h := h.grow k147
    refine wl_ok (r_assign (v := (.int .i64 (y145))) rfl) (wl_nil (then_normal (wc_seq (wc_region (wl_ok (r_move (v := (.int .i64 (y145))) rfl) (wl_ok (r_neq rfl rfl) (wl_nil (then_normal (wc_ifb hs rfl (fun c148 hs => ?_) (fun c148 hs => ?_))))))))))
    ·
     refine wc_seq (wc_region (wl_ok (r_move (v := (.int .i64 (y145))) rfl) (wl_ok (r_assign (v := (.slice none 0 0)) rfl) (wl_ok (r_assign (v := (.int .i64 (y145))) rfl) (wl_nil (then_normal (wc_ret (then_ret (fin2 (v1 := (.slice none 0 0)) (v2 := (.int .i64 (y145))) Tryd.results12 rfl rfl ?_)))))))))
     obtain rfl := Option.some.inj hs
     exact ⟨h.grown, _, rfl, OwnSl.nil, fresh_nil⟩
    ·
     refine wc_skip (then_normal (wc_seq (wc_region (wl_ok (r_move (v := v30) rfl) (wl_ok (r_assign (v := v30) rfl) (wl_ok (r_assign (v := (.int .i64 (0))) rfl) (wl_nil (then_normal (wc_ret (fin2 (v1 := v30) (v2 := (.int .i64 (0))) Tryd.results12 rfl rfl ?_))))))))))
     obtain rfl := Option.some.inj hs
     exact ⟨h.grown, _, rfl, (h.outOwn 7 rfl).1, (h.outOwn 7 rfl).2⟩
def wandererref_SameCode_j766 (nx6 : Unit → Option Bool) (x27 : Bool) : Option Bool :=
  bif x27 then some false else nx6 ()
def wandererref_SameCode_j788 (nx6 : Unit → Option Bool) (nx37 : Unit → Option Bool) (x58 : Bool) : Option Bool :=
  bif x58 then wandererref_SameCode_j766 nx6 true else nx37 ()
def wandererref_SameCode_b789 (x17 : Proc) (a : List Proc) (b : List Proc) (nx6 : Unit → Option Bool) (i34 : Int) (x35 : Ins) (s : Unit) (nx37 : Unit → Option Bool) : Option Bool :=
  (idx x17.code i34).bind fun x48 => bif (((decide ((x35.op : Int) = x48.op) && decide ((x35.a : Int) = x48.a)) && decide ((x35.b : Int) = x48.b)) && decide ((x35.c : Int) = x48.c)) then (slices_Equal_int x35.args x48.args).bind fun y63 => wandererref_SameCode_j788 nx6 nx37 (!y63) else wandererref_SameCode_j788 nx6 nx37 true
def wandererref_SameCode_k790 (nx6 : Unit → Option Bool) (s : Unit) : Option Bool :=
  wandererref_SameCode_j766 nx6 false
def wandererref_SameCode_b791 (b : List Proc) (a : List Proc) (i3 : Int) (x4 : Proc) (s : Unit) (nx6 : Unit → Option Bool) : Option Bool :=
  (idx b i3).bind fun x17 => bif (decide ((x4.params : Int) = x17.params) && decide ((x4.regs : Int) = x17.regs)) then bif decide (((x4.code.length : Int) : Int) ≠ (x17.code.length : Int)) then wandererref_SameCode_j766 nx6 true else eachI (wandererref_SameCode_b789 x17 a b nx6) (wandererref_SameCode_k790 nx6) 0 x4.code () else wandererref_SameCode_j766 nx6 true
def wandererref_SameCode_k792 (s : Unit) : Option Bool :=
  some true
def wandererref_SameCode (a : List Proc) (b : List Proc) : Option Bool :=
  bif decide (((a.length : Int) : Int) ≠ (b.length : Int)) then some false else eachI (wandererref_SameCode_b791 b a) wandererref_SameCode_k792 0 a ()
theorem wandererref_SameCode_c (w0 : World) (M : BS) (hM : ∀ b, M b → b < w0.heap.size) (va : Value) (a : List Proc) (ha : Rd2 rProc w0 BE M va a) (vb : Value) (b : List Proc) (hb : Rd2 rProc w0 BE M vb b) (r : Bool) (hs : wandererref_SameCode a b = some r) :
    Calls Tryd.prog 13 #[va, vb] w0 (fun e w' => Grow w0 w' ∧ e = .returned (.bool r)) := by
 refine calls_start (args := [va, vb]) Tryd.func13 rfl Tryd.ntmps13 (Nat.le_of_ble_eq_true rfl) ?_
 have h := SH.init hM
 replace h := h.argSr 1 ha none_own
 replace h := h.argSr 2 hb (hupd_own_sr none_own)
 have hl_a := ha.len_le
 have hl_b := hb.len_le
 refine wc_seq (wc_region (wl_ok (r_assign (v := (.bool (false))) rfl) (wl_nil (then_normal (wc_seq (wc_region (wl_ok (r_move (v := va) rfl) (wl_ok (r_move (v := vb) rfl) (w_callIn (args := [va, vb, (.func (.func 37) #[] #[])]) fnOk25 rfl rfl (calls_start (args := [va, vb, (.func (.func 37) #[] #[])]) Tryd.func25 rfl Tryd.ntmps25 (Nat.le_of_ble_eq_true rfl) (wc_seq (wc_region (wl_ok (r_assign (v := (.bool (false))) rfl) (wl_nil (then_normal (wc_seq (wc_seq (wc_region (wl_ok (r_move (v := va) rfl) (wl_ok (r_len SliceOf22 rfl (h.srS 1 rfl)) (wl_ok (r_move (v := vb) rfl) (wl_ok (r_len SliceOf22 rfl (h.srS 2 rfl)) (wl_ok (r_neq rfl rfl) ?_)))))))))))))))))))))))
 refine wl_nil (then_normal (wc_ifb hs rfl (fun c1 hs => ?_) (fun c1 hs => ?_)))
 ·
  refine wc_seq (wc_region (wl_ok (r_assign (v := (.bool (false))) rfl) (wl_nil (then_normal (wc_ret (then_ret (fin1 (v := (.bool (false))) Tryd.results25 rfl (⟨_, rfl, ?_⟩))))))))
  refine wl_ok (r_assign (v := (.bool (false))) rfl) (wl_nil (then_normal (wc_ret (fin1 (v := (.bool (false))) Tryd.results13 rfl ?_))))
  obtain rfl := Option.some.inj hs
  exact ⟨h.grown, rfl⟩
 ·
  refine wc_skip (then_normal (wc_seq (wc_seq (wc_region (wl_ok (r_move (v := va) rfl) (wl_ok (r_len SliceOf22 rfl (h.srS 1 rfl)) (wl_ok (r_move (v := (.int .i64 (0))) rfl) (wl_nil (then_normal (wc_block (wc_lp (σ := Nat × Int) (inl [6, 7, 8, 9, 17, 18, 19, 20, 21, 22, 23, 24, 25, 26, 27, 28, 29, 30, 31]) (fun ⟨k2, i3⟩ => [(17, (.int .i64 (i3)))]) (fun ⟨k2, i3⟩ w => SH w0 M BE w (hset [(1, .sr rProc va a), (2, .sr rProc vb b)]) ∧ i3 = (k2 : Int) ∧ eachI (wandererref_SameCode_b791 b a) wandererref_SameCode_k792 i3 (a.drop k2) () = some r) (fun ⟨k2, i3⟩ => a.length - k2) ⟨0, 0⟩ ⟨rfl, trivial⟩ ?_ ?_)))))))))))
  ·
   exact ⟨h.cn _, rfl, hs⟩
  ·
   rintro ⟨k2, i3⟩ w junk ⟨h, hik, hs⟩
   refine wc_seq (wc_region ?_)
   refine wl_ok (r_lss rfl rfl) (wl_nil (then_normal ?_))
   refine wc_seq (wc_if rfl (fun e7 => ?_) (fun e7 => ?_))
   ·
    refine wc_skip (then_normal ?_)
    obtain ⟨x4, e8a, e8b⟩ := drop_lt (hik ▸ e7)
    rw [e8b, eachI_cons] at hs
    generalize hnx6 : eachI (wandererref_SameCode_b791 b a) wandererref_SameCode_k792 (i3 + 1) (a.drop (k2 + 1)) = nx6 at hs
    have e8r := nat_rng ((h.srS 1 rfl)).len_le hik e7
    refine wc_seq (wc_block (wc_seq (wc_region (wl_ok (r_move (v := (.int .i64 (i3))) rfl) ?_))))
    obtain ⟨b10, o11, cs12, h, r13, i9⟩ := h.ixS 1 3 rfl SliceOf22 rfl (nat_nn hik) (get_nat hik e8a)
    obtain ⟨u14, rfl, g15⟩ := rProc_open r13
    replace h := h.knowRd 4 g15.up
    refine wl_ok (i9 _ _ _ _ _ _ _ _ _ rfl rfl) (wl_ok (r_ldPN (k := 0) (vs := [(.int .i64 (x4.params)), (.int .i64 (x4.regs)), u14]) h 3 rfl Many52 rfl rfl rfl (Nat.le_of_ble_eq_true rfl)) (w_allocN h 5 Many52 fun w b16 h => wl_ok (r_assign (v := (.int .i64 (i3))) rfl) (w_stN (vs := [(.int .i64 (x4.params)), (.int .i64 (x4.regs)), u14]) h 5 [(.int .i64 (x4.params)), (.int .i64 (x4.regs)), u14] rfl Many52 rfl rfl rfl rfl rfl (ones_cons rfl (ones_cons rfl (ones_cons (h.rdAt 4 rfl).one ones_nil))) fun w h => wl_nil (then_normal (wc_seq (wc_region (wl_ok (r_move (v := vb) rfl) (wl_ok (r_move (v := (.int .i64 (i3))) rfl) ?_))))))))
    obtain ⟨x17, e18, hs⟩ := o_bind hs
    obtain ⟨b20, o21, cs22, h, r23, i19⟩ := h.ixS 2 6 rfl SliceOf22 rfl (o_idx e18).1 (o_idx e18).2
    obtain ⟨u24, rfl, g25⟩ := rProc_open r23
    replace h := h.knowRd 7 g25.up
    refine wl_ok (i19 _ _ _ _ _ _ _ _ _ rfl rfl) (wl_ok (r_ldPN (k := 0) (vs := [(.int .i64 (x17.params)), (.int .i64 (x17.regs)), u24]) h 6 rfl Many52 rfl rfl rfl (Nat.le_of_ble_eq_true rfl)) (w_allocN h 8 Many52 fun w b26 h => w_stN (vs := [(.int .i64 (x17.params)), (.int .i64 (x17.regs)), u24]) h 8 [(.int .i64 (x17.params)), (.int .i64 (x17.regs)), u24] rfl Many52 rfl rfl rfl rfl rfl (ones_cons rfl (ones_cons rfl (ones_cons (h.rdAt 7 rfl).one ones_nil))) fun w h => wl_nil (then_normal (wc_join (σ := Bool) (inl [26, 27, 28, 29, 30]) (fun x27 => [(30, (.bool (x27)))]) (fun x27 w => SH w0 M BE w (hset [(1, .sr rProc va a), (2, .sr rProc vb b)]) ∧ wandererref_SameCode_j766 nx6 x27 = some r) ?_ ?_))))
    ·
     rintro x27 w junk ⟨h, hs⟩
     refine wc_ifb hs rfl (fun c28 hs => ?_) (fun c28 hs => ?_)
     ·
      refine wc_seq (wc_region (wl_ok (r_assign (v := (.bool (false))) rfl) (wl_nil (then_normal (wc_ret (inBlock_ret (then_ret (then_ret (inBlock_ret (then_ret (fin1 (v := (.bool (false))) Tryd.results25 rfl (⟨_, rfl, ?_⟩))))))))))))
      refine wl_ok (r_assign (v := (.bool (false))) rfl) (wl_nil (then_normal (wc_ret (fin1 (v := (.bool (false))) Tryd.results13 rfl ?_))))
      obtain rfl := Option.some.inj hs
      exact ⟨h.grown, rfl⟩
     ·
      refine wc_skip (inBlock_normal (then_normal (wc_region (wl_ok (r_add rfl rfl e8r) (wl_ok (r_move (v := (.int .i64 ((i3 + 1)))) rfl) (wl_nil (then_loop ?_)))))))
      subst hnx6
      exact lend ⟨k2 + 1, i3 + 1⟩ ⟨h.cn _, by omega, hs⟩ (by have := of_decide_eq_true e7; dsimp only; omega)
    ·
     refine wc_region (wl_ok (r_move (v := (.func (.func 37) #[] #[])) rfl) (wl_ok (r_ldBN (vs := [(.int .i64 (x4.params)), (.int .i64 (x4.regs)), u14]) h 5 rfl Many52 rfl rfl rfl) (wl_ok (r_ldBN (vs := [(.int .i64 (x17.params)), (.int .i64 (x17.regs)), u24]) h 8 rfl Many52 rfl rfl rfl) (w_callIn (args := [(.agg #[(.int .i64 (x4.params)), (.int .i64 (x4.regs)), u14]), (.agg #[(.int .i64 (x17.params)), (.int .i64 (x17.regs)), u24])]) fnOk37 rfl rfl (calls_start (args := [(.agg #[(.int .i64 (x4.params)), (.int .i64 (x4.regs)), u14]), (.agg #[(.int .i64 (x17.params)), (.int .i64 (x17.regs)), u24])]) Tryd.func37 rfl Tryd.ntmps37 (Nat.le_of_ble_eq_true rfl) (wc_seq (wc_region (w_box (cs := [(.int .i64 (x4.params)), (.int .i64 (x4.regs)), u14]) h 9 rfl rfl fun w b29 h => w_box (cs := [(.int .i64 (x17.params)), (.int .i64 (x17.regs)), u24]) h 10 rfl rfl fun w b30 h => wl_ok (r_assign (v := (.bool (false))) rfl) (wl_nil (then_normal (wc_seq (wc_region (wl_ok (r_fieldAddr Fld52x0 rfl) (wl_ok (r_ldB h 9 rfl One3 rfl rfl) (wl_ok (r_fieldAddr Fld52x0 rfl) (wl_ok (r_ldB h 10 rfl One3 rfl rfl) (wl_ok (r_eql rfl rfl) (wl_ok (r_move (v := (.bool (decide ((x4.params : Int) = x17.params)))) rfl) (wl_gd0 rfl rfl (fun q => r_fieldAddr Fld52x1 rfl) (wl_gd0 rfl rfl (fun q => r_ldB h 9 rfl One3 (gvt q) rfl) (wl_gd0 rfl rfl (fun q => r_fieldAddr Fld52x1 rfl) ?_)))))))))))))))))))))
     refine wl_gd0 rfl rfl (fun q => r_ldB h 10 rfl One3 (gvt q) rfl) (wl_gd0 rfl rfl (fun q => r_eql (gvt q) (gvt q)) (wl_ok (r_pand rfl rfl evc) (wl_ok (r_move (v := (.bool ((decide ((x4.params : Int) = x17.params) && decide ((x4.regs : Int) = x17.regs))))) rfl) (c_split (b := (decide ((x4.params : Int) = x17.params) && decide ((x4.regs : Int) = x17.regs))) hs (fun c31 hs => ?_) (fun c31 hs => ?_)))))
     ·
      refine wl_on rfl (congrArg Value.bool c31) (wl_ok (r_fieldAddr Fld52x2 rfl) (wl_on rfl (congrArg Value.bool c31) (wl_ok (r_ldB h 9 rfl One50 rfl rfl) (wl_on rfl (congrArg Value.bool c31) (wl_ok (r_fieldAddr Fld52x2 rfl) (wl_on rfl (congrArg Value.bool c31) (wl_ok (r_ldB h 10 rfl One50 rfl rfl) (wl_on rfl (congrArg Value.bool c31) (w_callIn (args := [u14, u24, (.func (.func 38) #[] #[])]) fnOk27 rfl rfl (calls_start (args := [u14, u24, (.func (.func 38) #[] #[])]) Tryd.func27 rfl Tryd.ntmps27 (Nat.le_of_ble_eq_true rfl) (wc_seq (wc_region (wl_ok (r_assign (v := (.bool (false))) rfl) (wl_nil (then_normal (wc_seq (wc_seq (wc_region (wl_ok (r_move (v := u14) rfl) (wl_ok (r_len SliceOf50 rfl (h.rdS 4 rfl)) (wl_ok (r_move (v := u24) rfl) (wl_ok (r_len SliceOf50 rfl (h.rdS 7 rfl)) (wl_ok (r_neq rfl rfl) ?_)))))))))))))))))))))))
      refine wl_nil (then_normal (wc_ifb hs rfl (fun c32 hs => ?_) (fun c32 hs => ?_)))
      ·
       refine wc_seq (wc_region (wl_ok (r_assign (v := (.bool (false))) rfl) (wl_nil (then_normal (wc_ret (then_ret (fin1 (v := (.bool (false))) Tryd.results27 rfl (⟨_, rfl, ?_⟩))))))))
       refine wl_ok (r_pick (b := true) (v := (.bool (false))) (congrArg Value.bool c31) rfl) (wl_ok (r_assign (v := (.bool (false))) rfl) (wl_nil (then_normal (wc_ret (fin1 (v := (.bool (false))) Tryd.results37 rfl (⟨_, rfl, ?_⟩))))))
       refine wl_ok (r_notb rfl) (wl_nil (then_loop ?_))
       exact jend true ⟨h.cn _, hs⟩
      ·
       refine wc_skip (then_normal (wc_seq (wc_seq (wc_region (wl_ok (r_move (v := u14) rfl) (wl_ok (r_len SliceOf50 rfl (h.rdS 4 rfl)) (wl_ok (r_move (v := (.int .i64 (0))) rfl) (wl_nil (then_normal (wc_block (wc_lp (σ := Nat × Int) (inl [6, 7, 8, 9, 17, 18, 19, 20, 21, 22, 23, 24, 25, 26, 27, 28, 29, 30, 31]) (fun ⟨k33, i34⟩ => [(17, (.int .i64 (i34)))]) (fun ⟨k33, i34⟩ w => SH w0 M BE w (hset [(1, .sr rProc va a), (2, .sr rProc vb b), (3, .pt b10 o11 [(.int .i64 (x4.params)), (.int .i64 (x4.regs)), u14]), (4, .rd rIns u14 x4.code), (5, .blk b16 [(.int .i64 (x4.params)), (.int .i64 (x4.regs)), u14]), (6, .pt b20 o21 [(.int .i64 (x17.params)), (.int .i64 (x17.regs)), u24]), (7, .rd rIns u24 x17.code), (8, .blk b26 [(.int .i64 (x17.params)), (.int .i64 (x17.regs)), u24]), (9, .blk b29 [(.int .i64 (x4.params)), (.int .i64 (x4.regs)), u14]), (10, .blk b30 [(.int .i64 (x17.params)), (.int .i64 (x17.regs)), u24])]) ∧ i34 = (k33 : Int) ∧ eachI (wandererref_SameCode_b789 x17 a b nx6) (wandererref_SameCode_k790 nx6) i34 (x4.code.drop k33) () = some r) (fun ⟨k33, i34⟩ => x4.code.length - k33) ⟨0, 0⟩ ⟨rfl, trivial⟩ ?_ ?_)))))))))))
       ·
        exact ⟨h.cn _, rfl, hs⟩
       ·
        rintro ⟨k33, i34⟩ w junk ⟨h, hik, hs⟩
        refine wc_seq (wc_region ?_)
        refine wl_ok (r_lss rfl rfl) (wl_nil (then_normal ?_))
        refine wc_seq (wc_if rfl (fun e38 => ?_) (fun e38 => ?_))
        ·
         refine wc_skip (then_normal ?_)
         obtain ⟨x35, e39a, e39b⟩ := drop_lt (hik ▸ e38)
         rw [e39b, eachI_cons] at hs
         generalize hnx37 : eachI (wandererref_SameCode_b789 x17 a b nx6) (wandererref_SameCode_k790 nx6) (i34 + 1) (x4.code.drop (k33 + 1)) = nx37 at hs
         have e39r := nat_rng ((h.rdS 4 rfl)).len_le hik e38
         refine wc_seq (wc_block (wc_seq (wc_region (wl_ok (r_move (v := (.int .i64 (i34))) rfl) ?_))))
         obtain ⟨b41, o42, cs43, h, r44, i40⟩ := h.ixR 4 11 rfl SliceOf50 rfl (nat_nn hik) (get_nat hik e39a)
         obtain ⟨u45, rfl, g46⟩ := rIns_open r44
         replace h := h.knowRd 12 g46.up
         refine wl_ok (i40 _ _ _ _ _ _ _ _ _ rfl rfl) (wl_ok (r_ldPN (k := 0) (vs := [(.int .i64 (x35.op)), (.int .i64 (x35.a)), (.int .i64 (x35.b)), (.int .i64 (x35.c)), u45]) h 11 rfl Many54 rfl rfl rfl (Nat.le_of_ble_eq_true rfl)) (w_allocN h 13 Many54 fun w b47 h => wl_ok (r_assign (v := (.int .i64 (i34))) rfl) (w_stN (vs := [(.int .i64 (x35.op)), (.int .i64 (x35.a)), (.int .i64 (x35.b)), (.int .i64 (x35.c)), u45]) h 13 [(.int .i64 (x35.op)), (.int .i64 (x35.a)), (.int .i64 (x35.b)), (.int .i64 (x35.c)), u45] rfl Many54 rfl rfl rfl rfl rfl (ones_cons rfl (ones_cons rfl (ones_cons rfl (ones_cons rfl (ones_cons (h.rdAt 12 rfl).one ones_nil))))) fun w h => wl_nil (then_normal (wc_seq (wc_region (wl_ok (r_move (v := u24) rfl) (wl_ok (r_move (v := (.int .i64 (i34))) rfl) ?_))))))))
         obtain ⟨x48, e49, hs⟩ := o_bind hs
         obtain ⟨b51, o52, cs53, h, r54, i50⟩ := h.ixR 7 14 rfl SliceOf50 rfl (o_idx e49).1 (o_idx e49).2
         obtain ⟨u55, rfl, g56⟩ := rIns_open r54
         replace h := h.knowRd 15 g56.up
         refine wl_ok (i50 _ _ _ _ _ _ _ _ _ rfl rfl) (wl_ok (r_ldPN (k := 0) (vs := [(.int .i64 (x48.op)), (.int .i64 (x48.a)), (.int .i64 (x48.b)), (.int .i64 (x48.c)), u55]) h 14 rfl Many54 rfl rfl rfl (Nat.le_of_ble_eq_true rfl)) (w_allocN h 16 Many54 fun w b57 h => w_stN (vs := [(.int .i64 (x48.op)), (.int .i64 (x48.a)), (.int .i64 (x48.b)), (.int .i64 (x48.c)), u55]) h 16 [(.int .i64 (x48.op)), (.int .i64 (x48.a)), (.int .i64 (x48.b)), (.int .i64 (x48.c)), u55] rfl Many54 rfl rfl rfl rfl rfl (ones_cons rfl (ones_cons rfl (ones_cons rfl (ones_cons rfl (ones_cons (h.rdAt 15 rfl).one ones_nil))))) fun w h => wl_nil (then_normal (wc_join (σ := Bool) (inl [26, 27, 28, 29, 30]) (fun x58 => [(30, (.bool (x58)))]) (fun x58 w => SH w0 M BE w (hset [(1, .sr rProc va a), (2, .sr rProc vb b), (3, .pt b10 o11 [(.int .i64 (x4.params)), (.int .i64 (x4.regs)), u14]), (4, .rd rIns u14 x4.code), (5, .blk b16 [(.int .i64 (x4.params)), (.int .i64 (x4.regs)), u14]), (6, .pt b20 o21 [(.int .i64 (x17.params)), (.int .i64 (x17.regs)), u24]), (7, .rd rIns u24 x17.code), (8, .blk b26 [(.int .i64 (x17.params)), (.int .i64 (x17.regs)), u24]), (9, .blk b29 [(.int .i64 (x4.params)), (.int .i64 (x4.regs)), u14]), (10, .blk b30 [(.int .i64 (x17.params)), (.int .i64 (x17.regs)), u24])]) ∧ wandererref_SameCode_j788 nx6 nx37 x58 = some r) ?_ ?_))))
         ·
          rintro x58 w junk ⟨h, hs⟩
          refine wc_ifb hs rfl (fun c59 hs => ?_) (fun c59 hs => ?_)
          ·
           refine wc_seq (wc_region (wl_ok (r_assign (v := (.bool (false))) rfl) (wl_nil (then_normal (wc_ret (inBlock_ret (then_ret (then_ret (inBlock_ret (then_ret (fin1 (v := (.bool (false))) Tryd.results27 rfl (⟨_, rfl, ?_⟩))))))))))))
           refine wl_ok (r_pick (b := true) (v := (.bool (false))) (congrArg Value.bool c31) rfl) (wl_ok (r_assign (v := (.bool (false))) rfl) (wl_nil (then_normal (wc_ret (fin1 (v := (.bool (false))) Tryd.results37 rfl (⟨_, rfl, ?_⟩))))))
           refine wl_ok (r_notb rfl) (wl_nil (then_loop ?_))
           exact jend true ⟨h.cn _, hs⟩
          ·
           refine wc_skip (inBlock_normal (then_normal (wc_region (wl_ok (r_add rfl rfl e39r) (wl_ok (r_move (v := (.int .i64 ((i34 + 1)))) rfl) (wl_nil (then_loop ?_)))))))
           subst hnx37
           exact lend ⟨k33 + 1, i34 + 1⟩ ⟨h.cn _, by omega, hs⟩ (by have := of_decide_eq_true e38; dsimp only; omega)
         ·
          refine wc_region (wl_ok (r_move (v := (.func (.func 38) #[] #[])) rfl) (wl_ok (r_ldBN (vs := [(.int .i64 (x35.op)), (.int .i64 (x35.a)), (.int .i64 (x35.b)), (.int .i64 (x35.c)), u45]) h 13 rfl Many54 rfl rfl rfl) (wl_ok (r_ldBN (vs := [(.int .i64 (x48.op)), (.int .i64 (x48.a)), (.int .i64 (x48.b)), (.int .i64 (x48.c)), u55]) h 16 rfl Many54 rfl rfl rfl) (w_callIn (args := [(.agg #[(.int .i64 (x35.op)), (.int .i64 (x35.a)), (.int .i64 (x35.b)), (.int .i64 (x35.c)), u45]), (.agg #[(.int .i64 (x48.op)), (.int .i64 (x48.a)), (.int .i64 (x48.b)), (.int .i64 (x48.c)), u55])]) fnOk38 rfl rfl (calls_start (args := [(.agg #[(.int .i64 (x35.op)), (.int .i64 (x35.a)), (.int .i64 (x35.b)), (.int .i64 (x35.c)), u45]), (.agg #[(.int .i64 (x48.op)), (.int .i64 (x48.a)), (.int .i64 (x48.b)), (.int .i64 (x48.c)), u55])]) Tryd.func38 rfl Tryd.ntmps38 (Nat.le_of_ble_eq_true rfl) (wc_seq (wc_region (w_box (cs := [(.int .i64 (x35.op)), (.int .i64 (x35.a)), (.int .i64 (x35.b)), (.int .i64 (x35.c)), u45]) h 17 rfl rfl fun w b60 h => w_box (cs := [(.int .i64 (x48.op)), (.int .i64 (x48.a)), (.int .i64 (x48.b)), (.int .i64 (x48.c)), u55]) h 18 rfl rfl fun w b61 h => wl_ok (r_assign (v := (.bool (false))) rfl) (wl_nil (then_normal (wc_seq (wc_region (wl_ok (r_fieldAddr Fld54x0 rfl) (wl_ok (r_ldB h 17 rfl One3 rfl rfl) (wl_ok (r_fieldAddr Fld54x0 rfl) (wl_ok (r_ldB h 18 rfl One3 rfl rfl) (wl_ok (r_eql rfl rfl) (wl_ok (r_move (v := (.bool (decide ((x35.op : Int) = x48.op)))) rfl) (wl_gd0 rfl rfl (fun q => r_fieldAddr Fld54x1 rfl) (wl_gd0 rfl rfl (fun q => r_ldB h 17 rfl One3 (gvt q) rfl) (wl_gd0 rfl rfl (fun q => r_fieldAddr Fld54x1 rfl) ?_)))))))))))))))))))))
          refine wl_gd0 rfl rfl (fun q => r_ldB h 18 rfl One3 (gvt q) rfl) (wl_gd0 rfl rfl (fun q => r_eql (gvt q) (gvt q)) (wl_ok (r_pand rfl rfl evc) (wl_ok (r_move (v := (.bool ((decide ((x35.op : Int) = x48.op) && decide ((x35.a : Int) = x48.a))))) rfl) (wl_gd0 rfl rfl (fun q => r_fieldAddr Fld54x2 rfl) (wl_gd0 rfl rfl (fun q => r_ldB h 17 rfl One3 (gvt q) rfl) (wl_gd0 rfl rfl (fun q => r_fieldAddr Fld54x2 rfl) (wl_gd0 rfl rfl (fun q => r_ldB h 18 rfl One3 (gvt q) rfl) (wl_gd0 rfl rfl (fun q => r_eql (gvt q) (gvt q)) (wl_ok (r_pand rfl rfl evc) (wl_ok (r_move (v := (.bool (((decide ((x35.op : Int) = x48.op) && decide ((x35.a : Int) = x48.a)) && decide ((x35.b : Int) = x48.b))))) rfl) (wl_gd0 rfl rfl (fun q => r_fieldAddr Fld54x3 rfl) (wl_gd0 rfl rfl (fun q => r_ldB h 17 rfl One3 (gvt q) rfl) (wl_gd0 rfl rfl (fun q => r_fieldAddr Fld54x3 rfl) (wl_gd0 rfl rfl (fun q => r_ldB h 18 rfl One3 (gvt q) rfl) (wl_gd0 rfl rfl (fun q => r_eql (gvt q) (gvt q)) (wl_ok (r_pand rfl rfl evc) (wl_ok (r_move (v := (.bool ((((decide ((x35.op : Int) = x48.op) && decide ((x35.a : Int) = x48.a)) && decide ((x35.b : Int) = x48.b)) && decide ((x35.c : Int) = x48.c))))) rfl) (c_split (b := (((decide ((x35.op : Int) = x48.op) && decide ((x35.a : Int) = x48.a)) && decide ((x35.b : Int) = x48.b)) && decide ((x35.c : Int) = x48.c))) hs (fun c62 hs => ?_) (fun c62 hs => ?_)))))))))))))))))))
          ·
           refine wl_on rfl (congrArg Value.bool c62) (wl_ok (r_fieldAddr Fld54x4 rfl) (wl_on rfl (congrArg Value.bool c62) (wl_ok (r_ldB h 17 rfl One43 rfl rfl) (wl_on rfl (congrArg Value.bool c62) (wl_ok (r_fieldAddr Fld54x4 rfl) (wl_on rfl (congrArg Value.bool c62) (wl_ok (r_ldB h 18 rfl One43 rfl rfl) (wl_on rfl (congrArg Value.bool c62) ?_))))))))
           obtain ⟨y63, e64, hs⟩ := o_bind hs
           refine w_call fnOk29 rfl rfl (slices_Equal_int_c _ _ h.lt u45 x35.args (h.rdS 12 rfl) u55 x48.args (h.rdS 15 rfl) _ e64) ?_
           rintro _ w ⟨k65, rfl⟩
           refine ⟨_, rfl, ?_⟩
           replace h := h.grow k65
           refine wl_ok (r_pick (b := true) (v := (.bool (y63))) (congrArg Value.bool c62) rfl) (wl_ok (r_assign (v := (.bool (y63))) rfl) (wl_nil (then_normal (wc_ret (fin1 (v := (.bool (y63))) Tryd.results38 rfl (⟨_, rfl, ?_⟩))))))
           refine wl_ok (r_notb rfl) (wl_nil (then_loop ?_))
           exact jend (!y63) ⟨h.cn _, hs⟩
          ·
           refine wl_off (b' := false) rfl (congrArg Value.bool c62) rfl (wl_off (b' := false) rfl (congrArg Value.bool c62) rfl (wl_off (b' := false) rfl (congrArg Value.bool c62) rfl (wl_off (b' := false) rfl (congrArg Value.bool c62) rfl (wl_off (b' := false) rfl (congrArg Value.bool c62) rfl (wl_ok (r_pick (b := false) (v := (.bool (false))) (congrArg Value.bool c62) rfl) (wl_ok (r_assign (v := (.bool (false))) rfl) (wl_nil (then_normal (wc_ret (fin1 (v := (.bool (false))) Tryd.results38 rfl (⟨_, rfl, ?_⟩)))))))))))
           refine wl_ok (r_notb rfl) (wl_nil (then_loop ?_))
           exact jend true ⟨h.cn _, hs⟩
        ·
         rw [drop_ge (hik ▸ e38), eachI_nil] at hs
         refine wc_exit (then_exit (then_exit (inBlock_eq (then_normal (wc_seq (wc_region (wl_ok (r_assign (v := (.bool (true))) rfl) (wl_nil (then_normal (wc_ret (fin1 (v := (.bool (true))) Tryd.results27 rfl (⟨_, rfl, ?_⟩))))))))))))
         refine wl_ok (r_pick (b := true) (v := (.bool (true))) (congrArg Value.bool c31) rfl) (wl_ok (r_assign (v := (.bool (true))) rfl) (wl_nil (then_normal (wc_ret (fin1 (v := (.bool (true))) Tryd.results37 rfl (⟨_, rfl, ?_⟩))))))
         refine wl_ok (r_notb rfl) (wl_nil (then_loop ?_))
         exact jend false ⟨h.cn _, hs⟩
     ·
      refine wl_off (b' := false) rfl (congrArg Value.bool c31) rfl (wl_off (b' := false) rfl (congrArg Value.bool c31) rfl (wl_off (b' := false) rfl (congrArg Value.bool c31) rfl (wl_off (b' := false) rfl (congrArg Value.bool c31) rfl (wl_off (b' := false) rfl (congrArg Value.bool c31) rfl (wl_ok (r_pick (b := false) (v := (.bool (false))) (congrArg Value.bool c31) rfl) (wl_ok (r_assign (v := (.bool (false))) rfl) (wl_nil (then_normal (wc_ret (fin1 (v := (.bool (false))) Tryd.results37 rfl (⟨_, rfl, ?_⟩)))))))))))
      refine wl_ok (r_notb rfl) (wl_nil (then_loop ?_))
      exact jend true ⟨h.cn _, hs⟩
   ·
    rw [drop_ge (hik ▸ e7), eachI_nil] at hs
    refine wc_exit (then_exit (then_exit (inBlock_eq (then_normal (wc_seq (wc_region (wl_ok (r_assign (v := (.bool (true))) rfl) (wl_nil (then_normal (wc_ret (fin1 (v := (.bool (true))) Tryd.results25 rfl (⟨_, rfl, ?_⟩))))))))))))
    refine wl_ok (r_assign (v := (.bool (true))) rfl) (wl_nil (then_normal (wc_ret (fin1 (v := (.bool (true))) Tryd.results13 rfl ?_))))
    obtain rfl := Option.some.inj hs
    exact ⟨h.grown, rfl⟩
def wandererlaw_ImageSays_j1 (N : Nat) (y1 : Str × Int) (y9 : Int) (b : Str) (y4 : List Proc × Int) (x12 : Str) : Option Bool :=
  (wandererlaw_printed N).bind fun y13 => bif (((!y13) || decide ((y1.2 : Int) ≠ y9)) || decide ((y1.1 : Str) ≠ x12)) then some false else bif decide ((60000 : Int) < (b.length : Int)) then some (decide ((y4.2 : Int) = 2) && decide (((y4.1.length : Int) : Int) = 0)) else (wandererref_CodeRead N b).bind fun y18 => bif decide ((y4.2 : Int) = y18.2) then (wandererref_SameCode y4.1 y18.1).bind fun y25 => some y25 else some false
def wandererlaw_ImageSays (N : Nat) (a : List Proc) (b : Str) : Option Bool :=
  (image_Print a).bind fun y1 => (image_Parse N b).bind fun y4 => (wandererref_CheckCode a).bind fun y9 => bif decide ((y9 : Int) = 0) then (wandererref_CodeText a).bind fun y29 => wandererlaw_ImageSays_j1 N y1 y9 b y4 y29 else wandererlaw_ImageSays_j1 N y1 y9 b y4 []
theorem wandererlaw_ImageSays_c (N : Nat) (w0 : World) (M : BS) (hM : ∀ b, M b → b < w0.heap.size) (hT : Tabs Tryd.prog 0 w0) (va : Value) (a : List Proc) (ha : Rd2 rProc w0 BE M va a) (b : Str) (r : Bool) (hs : wandererlaw_ImageSays N a b = some r) :
    Calls Tryd.prog 4 #[va, (strV b)] w0 (fun e w' => Grow w0 w' ∧ e = .returned (.bool r)) := by
 refine calls_start (args := [va, (strV b)]) Tryd.func4 rfl Tryd.ntmps4 (Nat.le_of_ble_eq_true rfl) ?_
 have h := SH.init hM
 replace h := h.argSr 1 ha none_own
 have hl_a := ha.len_le
 refine wc_seq (wc_region (wl_ok (r_assign (v := (.bool (false))) rfl) (wl_nil (then_normal (wc_seq (wc_region (wl_ok (r_move (v := va) rfl) ?_)))))))
 obtain ⟨y1, e2, hs⟩ := o_bind hs
 refine w_call fnOk6 rfl rfl (image_Print_c _ _ h.lt (hT.go h.keep) va a (h.srS 1 rfl) _ e2) ?_
 rintro _ w ⟨k3, rfl⟩
 refine ⟨_, rfl, ?_⟩
 replace h := h.grow k3
 refine wl_ok (r_move (v := (.tuple #[(strV y1.1), (.int .i64 (y1.2))])) rfl) (wl_ok (r_extract rfl rfl) (wl_ok (r_extract rfl rfl) (wl_ok (r_assign (v := (strV y1.1)) rfl) (wl_ok (r_assign (v := (.int .i64 (y1.2))) rfl) (wl_nil (then_normal (wc_seq (wc_region (wl_ok (r_move (v := (strV b)) rfl) ?_)))))))))
 obtain ⟨y4, e5, hs⟩ := o_bind hs
 refine w_call fnOk7 rfl rfl (image_Parse_c N _ _ h.lt (hT.go h.keep) b _ e5) ?_
 rintro _ w ⟨k8, u6, rfl, g7⟩
 refine ⟨_, rfl, ?_⟩
 replace h := h.gotRd 2 k8 g7
 refine wl_ok (r_move (v := (.tuple #[u6, (.int .i64 (y4.2))])) rfl) (wl_ok (r_extract rfl rfl) (wl_ok (r_extract rfl rfl) (wl_ok (r_assign (v := u6) rfl) (wl_ok (r_assign (v := (.int .i64 (y4.2))) rfl) (wl_nil (then_normal (wc_seq (wc_region (wl_ok (r_move (v := va) rfl) ?_)))))))))
 obtain ⟨y9, e10, hs⟩ := o_bind hs
 refine w_call fnOk10 rfl rfl (wandererref_CheckCode_c _ _ h.lt va a (h.srS 1 rfl) _ e10) ?_
 rintro _ w ⟨k11, rfl⟩
 refine ⟨_, rfl, ?_⟩
 replace h := h.grow k11
 refine wl_ok (r_assign (v := (.int .i64 (y9))) rfl) (wl_nil (then_normal (wc_seq (wc_region (wl_ok (r_assign (v := (strV [])) rfl) (wl_nil (then_normal (wc_join (σ := Str) (inl [10, 25, 26, 27, 28]) (fun x12 => [(10, (strV x12))]) (fun x12 w => SH w0 M BE w (hset [(2, .rd rProc u6 y4.1)]) ∧ wandererlaw_ImageSays_j1 N y1 y9 b y4 x12 = some r) ?_ ?_))))))))
 ·
  rintro x12 w junk ⟨h, hs⟩
  refine wc_seq (wc_seq (wc_region ?_))
  obtain ⟨y13, e14, hs⟩ := o_bind hs
  refine w_call fnOk9 rfl rfl (wandererlaw_printed_c N _ _ h.lt (hT.go h.keep)  _ e14) ?_
  rintro _ w ⟨k15, rfl⟩
  refine ⟨_, rfl, ?_⟩
  replace h := h.grow k15
  refine wl_ok (r_notb rfl) (wl_ok (r_move (v := (.bool ((!y13)))) rfl) (wl_gd0 rfl rfl (fun q => r_move (v := (.int .i64 (y1.2))) rfl) (wl_gd0 rfl rfl (fun q => r_move (v := (.int .i64 (y9))) rfl) (wl_gd0 rfl rfl (fun q => r_neq (gvt q) (gvt q)) (wl_ok (r_por rfl rfl evc) (wl_ok (r_move (v := (.bool (((!y13) || decide ((y1.2 : Int) ≠ y9))))) rfl) (wl_gd0 rfl rfl (fun q => r_move (v := (strV y1.1)) rfl) (wl_gd0 rfl rfl (fun q => r_move (v := (strV x12)) rfl) (wl_gd0 rfl rfl (fun q => r_neqs (gvt q) (gvt q)) (wl_ok (r_por rfl rfl evc) (wl_nil (then_normal (wc_ifb hs rfl (fun c16 hs => ?_) (fun c16 hs => ?_))))))))))))))
  ·
   refine wc_seq (wc_region (wl_ok (r_assign (v := (.bool (false))) rfl) (wl_nil (then_normal (wc_ret (then_ret (fin1 (v := (.bool (false))) Tryd.results4 rfl ?_)))))))
   obtain rfl := Option.some.inj hs
   exact ⟨h.grown, rfl⟩
  ·
   refine wc_skip (then_normal (wc_seq (wc_seq (wc_region (wl_ok (r_move (v := (strV b)) rfl) (wl_ok (r_lenS Tryd.underlying9 rfl) (wl_ok (r_gtr rfl rfl) (wl_nil (then_normal (wc_ifb hs rfl (fun c17 hs => ?_) (fun c17 hs => ?_)))))))))))
   ·
    refine wc_seq (wc_region (wl_ok (r_move (v := (.int .i64 (y4.2))) rfl) (wl_ok (r_eql rfl rfl) (wl_ok (r_move (v := (.bool (decide ((y4.2 : Int) = 2)))) rfl) (wl_gd0 rfl rfl (fun q => r_move (v := u6) rfl) (wl_gd0 rfl rfl (fun q => r_len SliceOf22 (gvt q) (h.rdS 2 rfl)) (wl_gd0 rfl rfl (fun q => r_eql (gvt q) rfl) (wl_ok (r_pand rfl rfl evc) (wl_ok (r_assign (v := (.bool ((decide ((y4.2 : Int) = 2) && decide (((y4.1.length : Int) : Int) = 0))))) rfl) (wl_nil (then_normal (wc_ret (then_ret (fin1 (v := (.bool ((decide ((y4.2 : Int) = 2) && decide (((y4.1.length : Int) : Int) = 0))))) Tryd.results4 rfl ?_))))))))))))))
    obtain rfl := Option.some.inj hs
    exact ⟨h.grown, rfl⟩
   ·
    refine wc_skip (then_normal (wc_seq (wc_region (wl_ok (r_move (v := (strV b)) rfl) ?_))))
    obtain ⟨y18, e19, hs⟩ := o_bind hs
    refine w_call fnOk12 rfl rfl (wandererref_CodeRead_c N _ _ h.lt (hT.go h.keep) b _ e19) ?_
    rintro _ w ⟨k23, u20, rfl, g21, g22⟩
    refine ⟨_, rfl, ?_⟩
    replace h := h.gotOwn 3 k23 g21 g22
    refine wl_ok (r_move (v := (.tuple #[u20, (.int .i64 (y18.2))])) rfl) (wl_ok (r_extract rfl rfl) (wl_ok (r_extract rfl rfl) (wl_ok (r_assign (v := u20) rfl) (wl_ok (r_assign (v := (.int .i64 (y18.2))) rfl) (wl_nil (then_normal (wc_seq (wc_region (wl_ok (r_move (v := (.int .i64 (y4.2))) rfl) (wl_ok (r_move (v := (.int .i64 (y18.2))) rfl) (wl_ok (r_eql rfl rfl) (wl_ok (r_move (v := (.bool (decide ((y4.2 : Int) = y18.2)))) rfl) (c_split (b := decide ((y4.2 : Int) = y18.2)) hs (fun c24 hs => ?_) (fun c24 hs => ?_))))))))))))))
    ·
     refine wl_on rfl (congrArg Value.bool c24) (wl_ok (r_move (v := u6) rfl) (wl_on rfl (congrArg Value.bool c24) (wl_ok (r_move (v := u20) rfl) (wl_on rfl (congrArg Value.bool c24) ?_))))
     obtain ⟨y25, e26, hs⟩ := o_bind hs
     refine w_call fnOk13 rfl rfl (wandererref_SameCode_c _ _ h.lt u6 y4.1 (h.rdS 2 rfl) u20 y18.1 (h.ownS 3 rfl) _ e26) ?_
     rintro _ w ⟨k27, rfl⟩
     refine ⟨_, rfl, ?_⟩
     replace h := h.grow k27
     refine wl_ok (r_pick (b := true) (v := (.bool (y25))) (congrArg Value.bool c24) rfl) (wl_ok (r_assign (v := (.bool (y25))) rfl) (wl_nil (then_normal (wc_ret (fin1 (v := (.bool (y25))) Tryd.results4 rfl ?_)))))
     obtain rfl := Option.some.inj hs
     exact ⟨h.grown, rfl⟩
    ·
     refine wl_off (b' := false) rfl (congrArg Value.bool c24) rfl (wl_off (b' := false) rfl (congrArg Value.bool c24) rfl (wl_off (b' := false) rfl (congrArg Value.bool c24) rfl (wl_ok (r_pick (b := false) (v := (.bool (false))) (congrArg Value.bool c24) rfl) (wl_ok (r_assign (v := (.bool (false))) rfl) (wl_nil (then_normal (wc_ret (fin1 (v := (.bool (false))) Tryd.results4 rfl ?_))))))))
     obtain rfl := Option.some.inj hs
     exact ⟨h.grown, rfl⟩
 ·
  refine wc_seq (wc_region (wl_ok (r_move (v := (.int .i64 (y9))) rfl) (wl_ok (r_eql rfl rfl) (wl_nil (then_normal (wc_ifb hs rfl (fun c28 hs => ?_) (fun c28 hs => ?_)))))))
  ·
   refine wc_region (wl_ok (r_move (v := va) rfl) ?_)
   obtain ⟨y29, e30, hs⟩ := o_bind hs
   refine w_call fnOk11 rfl rfl (wandererref_CodeText_c _ _ h.lt (hT.go h.keep) va a (h.srS 1 rfl) _ e30) ?_
   rintro _ w ⟨k31, rfl⟩
   refine ⟨_, rfl, ?_⟩
   replace h := h.grow k31
   refine wl_ok (r_assign (v := (strV y29)) rfl) (wl_nil (then_loop ?_))
   exact jend y29 ⟨h.cn _, hs⟩
  ·
   refine wc_skip (then_loop ?_)
   exact jend [] ⟨h.cn _, hs⟩
def wandererlaw_ImageBack_j2 (N : Nat) (b : Str) : Option Bool :=
  (image_Parse N b).bind fun y1 => (wandererlaw_printed N).bind fun y6 => bif ((!y6) || decide ((y1.2 : Int) ≠ 0)) then (wandererlaw_printed N).bind fun y10 => some y10 else (image_Print y1.1).bind fun y13 => some (decide ((y13.2 : Int) = 0) && decide ((y13.1 : Str) = b))
def wandererlaw_ImageBack_j3 (N : Nat) (b : Str) (x25 : Bool) : Option Bool :=
  bif x25 then some false else wandererlaw_ImageBack_j2 N b
def wandererlaw_ImageBack (N : Nat) (a : List Proc) (b : Str) : Option Bool :=
  (image_Print a).bind fun y16 => bif (decide ((y16.2 : Int) = 0) && decide (((y16.1.length : Int) : Int) ≤ 60000)) then (image_Parse N y16.1).bind fun y20 => bif decide ((y20.2 : Int) ≠ 0) then wandererlaw_ImageBack_j3 N b true else (code_Same a y20.1).bind fun y28 => wandererlaw_ImageBack_j3 N b (!y28) else wandererlaw_ImageBack_j2 N b
theorem wandererlaw_ImageBack_c (N : Nat) (w0 : World) (M : BS) (hM : ∀ b, M b → b < w0.heap.size) (hT : Tabs Tryd.prog 0 w0) (va : Value) (a : List Proc) (ha : Rd2 rProc w0 BE M va a) (b : Str) (r : Bool) (hs : wandererlaw_ImageBack N a b = some r) :
    Calls Tryd.prog 3 #[va, (strV b)] w0 (fun e w' => Grow w0 w' ∧ e = .returned (.bool r)) := by
 refine calls_start (args := [va, (strV b)]) Tryd.func3 rfl Tryd.ntmps3 (Nat.le_of_ble_eq_true rfl) ?_
 have h := SH.init hM
 replace h := h.argSr 1 ha none_own
 have hl_a := ha.len_le
 refine wc_seq (wc_region (wl_ok (r_assign (v := (.bool (false))) rfl) (wl_nil (then_normal (wc_join (σ := Unit) (inl [4, 5, 6, 7, 8, 12, 13, 14, 15, 16, 17, 18, 19, 20, 21, 22, 23, 24, 25, 26, 27, 28, 29, 30, 31, 32, 33, 34, 35, 36]) (fun _ => []) (fun _ w => SH w0 M BE w (hset []) ∧ wandererlaw_ImageBack_j2 N b = some r) ?_ ?_)))))
 ·
  rintro ⟨⟩ w junk ⟨h, hs⟩
  refine wc_seq (wc_region (wl_ok (r_move (v := (strV b)) rfl) ?_))
  obtain ⟨y1, e2, hs⟩ := o_bind hs
  refine w_call fnOk7 rfl rfl (image_Parse_c N _ _ h.lt (hT.go h.keep) b _ e2) ?_
  rintro _ w ⟨k5, u3, rfl, g4⟩
  refine ⟨_, rfl, ?_⟩
  replace h := h.gotRd 2 k5 g4
  refine wl_ok (r_move (v := (.tuple #[u3, (.int .i64 (y1.2))])) rfl) (wl_ok (r_extract rfl rfl) (wl_ok (r_extract rfl rfl) (wl_ok (r_assign (v := u3) rfl) (wl_ok (r_assign (v := (.int .i64 (y1.2))) rfl) (wl_nil (then_normal (wc_seq (wc_seq (wc_region ?_)))))))))
  obtain ⟨y6, e7, hs⟩ := o_bind hs
  refine w_call fnOk9 rfl rfl (wandererlaw_printed_c N _ _ h.lt (hT.go h.keep)  _ e7) ?_
  rintro _ w ⟨k8, rfl⟩
  refine ⟨_, rfl, ?_⟩
  replace h := h.grow k8
  refine wl_ok (r_notb rfl) (wl_ok (r_move (v := (.bool ((!y6)))) rfl) (wl_gd0 rfl rfl (fun q => r_move (v := (.int .i64 (y1.2))) rfl) (wl_gd0 rfl rfl (fun q => r_neq (gvt q) rfl) (wl_ok (r_por rfl rfl evc) (wl_nil (then_normal (wc_ifb hs rfl (fun c9 hs => ?_) (fun c9 hs => ?_))))))))
  ·
   refine wc_seq (wc_region ?_)
   obtain ⟨y10, e11, hs⟩ := o_bind hs
   refine w_call fnOk9 rfl rfl (wandererlaw_printed_c N _ _ h.lt (hT.go h.keep)  _ e11) ?_
   rintro _ w ⟨k12, rfl⟩
   refine ⟨_, rfl, ?_⟩
   replace h := h.grow k12
   refine wl_ok (r_assign (v := (.bool (y10))) rfl) (wl_nil (then_normal (wc_ret (then_ret (fin1 (v := (.bool (y10))) Tryd.results3 rfl ?_)))))
   obtain rfl := Option.some.inj hs
   exact ⟨h.grown, rfl⟩
  ·
   refine wc_skip (then_normal (wc_seq (wc_region (wl_ok (r_move (v := u3) rfl) ?_))))
   obtain ⟨y13, e14, hs⟩ := o_bind hs
   refine w_call fnOk6 rfl rfl (image_Print_c _ _ h.lt (hT.go h.keep) u3 y1.1 (h.rdS 2 rfl) _ e14) ?_
   rintro _ w ⟨k15, rfl⟩
   refine ⟨_, rfl, ?_⟩
   replace h := h.grow k15
   refine wl_ok (r_move (v := (.tuple #[(strV y13.1), (.int .i64 (y13.2))])) rfl) (wl_ok (r_extract rfl rfl) (wl_ok (r_extract rfl rfl) (wl_ok (r_assign (v := (strV y13.1)) rfl) (wl_ok (r_assign (v := (.int .i64 (y13.2))) rfl) (wl_nil (then_normal (wc_seq (wc_region (wl_ok (r_move (v := (.int .i64 (y13.2))) rfl) (wl_ok (r_eql rfl rfl) (wl_ok (r_move (v := (.bool (decide ((y13.2 : Int) = 0)))) rfl) (wl_gd0 rfl rfl (fun q => r_move (v := (strV y13.1)) rfl) (wl_gd0 rfl rfl (fun q => r_move (v := (strV b)) rfl) (wl_gd0 rfl rfl (fun q => r_eqls (gvt q) (gvt q)) (wl_ok (r_pand rfl rfl evc) (wl_ok (r_assign (v := (.bool ((decide ((y13.2 : Int) = 0) && decide ((y13.1 : Str) = b))))) rfl) (wl_nil (then_normal (wc_ret (fin1 (v := (.bool ((decide ((y13.2 : Int) = 0) && decide ((y13.1 : Str) = b))))) Tryd.results3 rfl ?_))))))))))))))))))))
   obtain rfl := Option.some.inj hs
   exact ⟨h.grown, rfl⟩
 ·
  refine wc_seq (wc_region (wl_ok (r_move (v := va) rfl) ?_))
  obtain ⟨y16, e17, hs⟩ := o_bind hs
  refine w_call fnOk6 rfl rfl (image_Print_c _ _ h.lt (hT.go h.keep) va a (h.srS 1 rfl) _ e17) ?_
  rintro _ w ⟨k18, rfl⟩
  refine ⟨_, rfl, ?_⟩
  replace h := h.grow k18
  refine wl_ok (r_move (v := (.tuple #[(strV y16.1), (.int .i64 (y16.2))])) rfl) (wl_ok (r_extract rfl rfl) (wl_ok (r_extract rfl rfl) (wl_ok (r_assign (v := (strV y16.1)) rfl) (wl_ok (r_assign (v := (.int .i64 (y16.2))) rfl) (wl_nil (then_normal (wc_seq (wc_region (wl_ok (r_move (v := (.int .i64 (y16.2))) rfl) (wl_ok (r_eql rfl rfl) (wl_ok (r_move (v := (.bool (decide ((y16.2 : Int) = 0)))) rfl) (wl_gd0 rfl rfl (fun q => r_move (v := (strV y16.1)) rfl) (wl_gd0 rfl rfl (fun q => r_lenS Tryd.underlying9 (gvt q)) (wl_gd0 rfl rfl (fun q => r_leq (gvt q) rfl) (wl_ok (r_pand rfl rfl evc) (wl_nil (then_normal (wc_ifb hs rfl (fun c19 hs => ?_) (fun c19 hs => ?_)))))))))))))))))))
  ·
   refine wc_seq (wc_region (wl_ok (r_move (v := (strV y16.1)) rfl) ?_))
   obtain ⟨y20, e21, hs⟩ := o_bind hs
   refine w_call fnOk7 rfl rfl (image_Parse_c N _ _ h.lt (hT.go h.keep) y16.1 _ e21) ?_
   rintro _ w ⟨k24, u22, rfl, g23⟩
   refine ⟨_, rfl, ?_⟩
   replace h := h.gotRd 3 k24 g23
   refine wl_ok (r_move (v := (.tuple #[u22, (.int .i64 (y20.2))])) rfl) (wl_ok (r_extract rfl rfl) (wl_ok (r_extract rfl rfl) (wl_ok (r_assign (v := u22) rfl) (wl_ok (r_assign (v := (.int .i64 (y20.2))) rfl) (wl_nil (then_normal (wc_join (σ := Bool) (inl [29, 30, 31, 32, 33, 34, 35, 36]) (fun x25 => [(36, (.bool (x25)))]) (fun x25 w => SH w0 M BE w (hset []) ∧ wandererlaw_ImageBack_j3 N b x25 = some r) ?_ ?_)))))))
   ·
    rintro x25 w junk ⟨h, hs⟩
    refine wc_ifb hs rfl (fun c26 hs => ?_) (fun c26 hs => ?_)
    ·
     refine wc_seq (wc_region (wl_ok (r_assign (v := (.bool (false))) rfl) (wl_nil (then_normal (wc_ret (then_ret (fin1 (v := (.bool (false))) Tryd.results3 rfl ?_)))))))
     obtain rfl := Option.some.inj hs
     exact ⟨h.grown, rfl⟩
    ·
     refine wc_skip (then_loop ?_)
     exact jend () ⟨h.cn _, hs⟩
   ·
    refine wc_region (wl_ok (r_move (v := (.int .i64 (y20.2))) rfl) (wl_ok (r_neq rfl rfl) (wl_ok (r_move (v := (.bool (decide ((y20.2 : Int) ≠ 0)))) rfl) (c_split (b := decide ((y20.2 : Int) ≠ 0)) hs (fun c27 hs => ?_) (fun c27 hs => ?_)))))
    ·
     refine wl_off (b' := true) rfl (congrArg Value.bool c27) rfl (wl_off (b' := true) rfl (congrArg Value.bool c27) rfl (wl_off (b' := true) rfl (congrArg Value.bool c27) rfl (wl_off (b' := true) rfl (congrArg Value.bool c27) rfl (wl_ok (r_pick (b := true) (v := (.bool (true))) (congrArg Value.bool c27) rfl) (wl_nil (then_loop ?_))))))
     exact jend true ⟨h.cn _, hs⟩
    ·
     refine wl_on rfl (congrArg Value.bool c27) (wl_ok (r_move (v := va) rfl) (wl_on rfl (congrArg Value.bool c27) (wl_ok (r_move (v := u22) rfl) (wl_on rfl (congrArg Value.bool c27) ?_))))
     obtain ⟨y28, e29, hs⟩ := o_bind hs
     refine w_call fnOk8 rfl rfl (code_Same_c _ _ h.lt va a (h.srS 1 rfl) u22 y20.1 (h.rdS 3 rfl) _ e29) ?_
     rintro _ w ⟨k30, rfl⟩
     refine ⟨_, rfl, ?_⟩
     replace h := h.grow k30
     refine wl_on rfl (congrArg Value.bool c27) (wl_ok (r_notb rfl) (wl_ok (r_pick (b := false) (v := (.bool ((!y28)))) (congrArg Value.bool c27) rfl) (wl_nil (then_loop ?_))))
     exact jend (!y28) ⟨h.cn _, hs⟩
  ·
   refine wc_skip (then_loop ?_)
   exact jend () ⟨h.cn _, hs⟩
end Go.Proofs.YtckocfgmnlhcmaaDoor
