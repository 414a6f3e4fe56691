/-
  Functions of the program, each as plain Lean, and that the code does just that.
-/
import Derived.Test.YtkjajililnbimaaProg
import Derived.Test.YtkjajililnbimaaLift
import Derived.Test.YtkjajililnbimaaSrc
set_option linter.unusedSimpArgs false
set_option linter.unusedVariables false
set_option maxRecDepth 10000
namespace Go.Proofs.Ytkjajililnbimaa
open Go Go.Proofs Go.LX
theorem fnOk27 : FnOk Try.prog 27 := ⟨_, Try.func27, by kernel_rfl, rfl⟩
theorem fnOk50 : FnOk Try.prog 50 := ⟨_, Try.func50, by kernel_rfl, rfl⟩
theorem fnOk51 : FnOk Try.prog 51 := ⟨_, Try.func51, by kernel_rfl, rfl⟩
theorem fnOk52 : FnOk Try.prog 52 := ⟨_, Try.func52, by kernel_rfl, rfl⟩
theorem fnOk53 : FnOk Try.prog 53 := ⟨_, Try.func53, by kernel_rfl, rfl⟩
theorem Over98 : OverFn Try.prog 98 76 4 := ⟨fun args w => run_callFunc_extern Try.func98 (by kernel_rfl) (by kernel_rfl) (by kernel_rfl) (e := Extern.SlicesOverlaps.overlaps #[76, 76] #[4]) (by kernel_rfl) args w⟩
theorem ZeroOne82 : ZeroOne Try.prog 82 := ⟨(.agg #[(.int .i64 (0)), (.int .i64 (0)), (.slice none 0 0), (.slice none 0 0), (.slice none 0 0), (.slice none 0 0)]), by kernel_rfl, by kernel_rfl⟩
def wandererlaw_at (a : Int) (b : Int) : Option Int :=
  grd (0 < b) (bif decide (((Int.tmod a b) : Int) < 0) then grd (I64 ((Int.tmod a b) + b)) (some ((Int.tmod a b) + b)) else some (Int.tmod a b))
theorem wandererlaw_at_c (w0 : World) (M : BS) (hM : ∀ b, M b → b < w0.heap.size) (a : Int) (b : Int) (r : Int) (hs : wandererlaw_at a b = some r) :
    Calls Try.prog 27 #[(.int .i64 (a)), (.int .i64 (b))] w0 (fun e w' => Grow w0 w' ∧ e = .returned (.int .i64 r)) := by
 refine calls_start (args := [(.int .i64 (a)), (.int .i64 (b))]) Try.func27 rfl Try.ntmps27 (Nat.le_of_ble_eq_true rfl) ?_
 have h := SH.init hM
 refine wc_seq (wc_region (wl_ok (r_assign (v := (.int .i64 (0))) rfl) (wl_nil (then_normal (wc_seq (wc_region (wl_ok (r_move (v := (.int .i64 (a))) rfl) (wl_ok (r_move (v := (.int .i64 (b))) rfl) ?_))))))))
 obtain ⟨a1, hs⟩ := o_grd hs
 refine wl_ok (r_rem rfl rfl a1) (wl_ok (r_assign (v := (.int .i64 ((Int.tmod a b)))) rfl) (wl_nil (then_normal (wc_seq (wc_seq (wc_region (wl_ok (r_move (v := (.int .i64 ((Int.tmod a b)))) rfl) (wl_ok (r_lss rfl rfl) (wl_nil (then_normal (wc_ifb hs rfl (fun c2 hs => ?_) (fun c2 hs => ?_))))))))))))
 ·
  refine wc_region (wl_ok (r_move (v := (.int .i64 ((Int.tmod a b)))) rfl) (wl_ok (r_move (v := (.int .i64 (b))) rfl) ?_))
  obtain ⟨a3, hs⟩ := o_grd hs
  refine wl_ok (r_add rfl rfl a3) (wl_ok (r_assign (v := (.int .i64 (((Int.tmod a b) + b)))) rfl) (wl_nil (then_normal (wc_seq (wc_region (wl_ok (r_move (v := (.int .i64 (((Int.tmod a b) + b)))) rfl) (wl_ok (r_assign (v := (.int .i64 (((Int.tmod a b) + b)))) rfl) (wl_nil (then_normal (wc_ret (fin1 (v := (.int .i64 (((Int.tmod a b) + b)))) Try.results27 rfl ?_)))))))))))
  obtain rfl := Option.some.inj hs
  exact ⟨h.grown, rfl⟩
 ·
  refine wc_skip (then_normal (wc_seq (wc_region (wl_ok (r_move (v := (.int .i64 ((Int.tmod a b)))) rfl) (wl_ok (r_assign (v := (.int .i64 ((Int.tmod a b)))) rfl) (wl_nil (then_normal (wc_ret (fin1 (v := (.int .i64 ((Int.tmod a b)))) Try.results27 rfl ?_)))))))))
  obtain rfl := Option.some.inj hs
  exact ⟨h.grown, rfl⟩
theorem slices_Clone_Fun_c (w0 : World) (M : BS) (hM : ∀ b, M b → b < w0.heap.size) (va : Value) (a : List Fun) (ha : Rd2 rFun w0 BE M va a) (r : List Fun) (hs : clone 40 a = some r) :
    Calls Try.prog 50 #[va] w0 (fun e w' => Grow w0 w' ∧ ∃ u0, e = .returned u0 ∧ OwnSl rFun 78 w' M u0 r ∧ (∀ b, ob u0 b → w0.heap.size ≤ b)) := by
  obtain ⟨hr, hs⟩ := o_grd hs
  cases hs
  refine calls_start (args := [va]) Try.func50 rfl Try.ntmps50 (Nat.le_of_ble_eq_true rfl) ?_
  have h := (SH.init hM).argSr 1 ha none_own
  refine wc_seq (wc_region (wl_ok (r_assign rfl) (wl_nil (then_normal ?_))))
  refine wc_seq (wc_seq (wc_region (wl_ok (r_move rfl) (wl_ok (r_eqnil SliceOf70 rfl (h.srS 1 rfl) rfl) (wl_nil (then_normal ?_))))))
  refine wc_if rfl (fun c => ?_) (fun c => ?_)
  · obtain ⟨c1, c2⟩ := nil_of_isNil (h.srS 1 rfl) c
    refine wc_seq (wc_region (wl_ok (r_assign rfl) (wl_nil (then_normal (wc_ret (then_ret ?_))))))
    refine fin1 (v := .slice none 0 0) Try.results50 rfl ?_
    rw [c2]
    exact ⟨h.grown, _, rfl, OwnSl.nil, fresh_nil⟩
  · refine wc_skip (then_normal ?_)
    refine wc_seq (wc_region ?_)
    refine w_bs (R := rFun) (vs := []) (xs := []) h 2 ElemOf70 rfl rfl rfl trivial rfl fun w u h => ?_
    refine wl_ok (r_move rfl) ?_
    refine w_app (R := rFun) (m := a) h 2 rfl (h.srS 1 rfl) ElemOf70 rfl rfl rfl hr.1 hr.2 fun w u h => ?_
    refine wl_ok (r_assign rfl) (wl_nil (then_normal (wc_ret ?_)))
    refine fin1 (v := u) Try.results50 rfl ?_
    exact ⟨h.grown, _, rfl, (h.outOwn 2 rfl).1, (h.outOwn 2 rfl).2⟩
theorem slices_Clone_Stmt_c (w0 : World) (M : BS) (hM : ∀ b, M b → b < w0.heap.size) (va : Value) (a : List GStmt) (ha : Rd2 rStmt w0 BE M va a) (r : List GStmt) (hs : clone 112 a = some r) :
    Calls Try.prog 52 #[va] w0 (fun e w' => Grow w0 w' ∧ ∃ u0, e = .returned u0 ∧ OwnSl rStmt 82 w' M u0 r ∧ (∀ b, ob u0 b → w0.heap.size ≤ b)) := by
  obtain ⟨hr, hs⟩ := o_grd hs
  cases hs
  refine calls_start (args := [va]) Try.func52 rfl Try.ntmps52 (Nat.le_of_ble_eq_true rfl) ?_
  have h := (SH.init hM).argSr 1 ha none_own
  refine wc_seq (wc_region (wl_ok (r_assign rfl) (wl_nil (then_normal ?_))))
  refine wc_seq (wc_seq (wc_region (wl_ok (r_move rfl) (wl_ok (r_eqnil SliceOf76 rfl (h.srS 1 rfl) rfl) (wl_nil (then_normal ?_))))))
  refine wc_if rfl (fun c => ?_) (fun c => ?_)
  · obtain ⟨c1, c2⟩ := nil_of_isNil (h.srS 1 rfl) c
    refine wc_seq (wc_region (wl_ok (r_assign rfl) (wl_nil (then_normal (wc_ret (then_ret ?_))))))
    refine fin1 (v := .slice none 0 0) Try.results52 rfl ?_
    rw [c2]
    exact ⟨h.grown, _, rfl, OwnSl.nil, fresh_nil⟩
  · refine wc_skip (then_normal ?_)
    refine wc_seq (wc_region ?_)
    refine w_bs (R := rStmt) (vs := []) (xs := []) h 2 ElemOf76 rfl rfl rfl trivial rfl fun w u h => ?_
    refine wl_ok (r_move rfl) ?_
    refine w_app (R := rStmt) (m := a) h 2 rfl (h.srS 1 rfl) ElemOf76 rfl rfl rfl hr.1 hr.2 fun w u h => ?_
    refine wl_ok (r_assign rfl) (wl_nil (then_normal (wc_ret ?_)))
    refine fin1 (v := u) Try.results52 rfl ?_
    exact ⟨h.grown, _, rfl, (h.outOwn 2 rfl).1, (h.outOwn 2 rfl).2⟩
theorem slices_Delete_Stmt_c (w0 : World) (M : BS) (va : Value) (a : List GStmt) (i j : Nat) (ha : OwnSl rStmt 82 w0 M va a) (hij : i < j) (hj : j ≤ a.length) :
    Calls Try.prog 51 #[va, .int .i64 (i : Int), .int .i64 (j : Int)] w0 (fun e w' => ∃ u, e = .returned u ∧ OwnSl rStmt 82 w' M u (a.take i ++ a.drop j) ∧ Keep (ob va) w0 w' ∧ (∀ b, ob u b → b < w0.heap.size → ob va b)) := by
  obtain ⟨gg, cap, cur, rfl, hraw0, hcap, hrd⟩ := own_raw ha (by omega)
  refine calls_start (args := [.slice (some ⟨gg, 0, none⟩) a.length cap, .int .i64 (i : Int), .int .i64 (j : Int)]) Try.func51 rfl Try.ntmps51 (Nat.le_of_ble_eq_true rfl) ?_
  refine wc_seq (wc_region (wl_ok (r_assign rfl) (wl_nil (then_normal ?_))))
  refine wc_seq (wc_region ?_)
  refine wl_ok (r_move (v := .slice (some ⟨gg, 0, none⟩) a.length cap) rfl) (wl_ok (r_move (v := .int .i64 (i : Int)) rfl) (wl_ok (r_move (v := .int .i64 (j : Int)) rfl) (wl_ok (r_move (v := .slice (some ⟨gg, 0, none⟩) a.length cap) rfl) ?_)))
  refine wl_ok (r_len_slice (a := some ⟨gg, 0, none⟩) (l := a.length) (c := cap) SliceOf76 rfl) ?_
  refine wl_ok (r_sliceRaw (gg := gg) (a := i) (b := j) (m := a.length) (len := a.length) (cap := cap) SliceOf76 rfl (.inr rfl) (.inr rfl) (.inr ⟨rfl, rfl⟩) (by omega) (by omega) (by omega)) (wl_nil (then_normal ?_))
  refine wc_seq (wc_seq (wc_region ?_))
  refine wl_ok (r_move (v := .int .i64 (i : Int)) rfl) (wl_ok (r_move (v := .int .i64 (j : Int)) rfl) (wl_ok (r_eql (p := (i : Int)) (q := (j : Int)) rfl rfl) (wl_nil (then_normal ?_))))
  refine wc_if rfl (fun c => absurd (of_decide_eq_true c) (by omega)) (fun _ => wc_skip (then_normal ?_))
  refine wc_seq (wc_region ?_)
  refine wl_ok (r_move (v := .slice (some ⟨gg, 0, none⟩) a.length cap) rfl) (wl_ok (r_len_slice (a := some ⟨gg, 0, none⟩) (l := a.length) (c := cap) SliceOf76 rfl) (wl_ok (r_assign (v := .int .i64 (a.length : Nat)) rfl) (wl_nil (then_normal ?_))))
  refine wc_seq (wc_tail0 6 mixed (by kernel_rfl) fun w hk => ?_)
  have hraw := hraw0.keep hk (fun h => h)
  have hK : Keep (fun x => x = gg) w0 w := hk.keep
  refine wk_ok (r_move (v := .slice (some ⟨gg, 0, none⟩) a.length cap) rfl) (wk_ok (r_move (v := .int .i64 (i : Int)) rfl) ?_)
  refine wk_ok (r_sliceTo (b := i) (ad := some ⟨gg, 0, none⟩) (len := a.length) (cap := cap) SliceOf76 rfl (.inr ⟨gg, rfl⟩) (.inl ⟨rfl, rfl⟩) rfl (by omega)) ?_
  refine wk_ok (r_move (v := .slice (some ⟨gg, 0, none⟩) a.length cap) rfl) (wk_ok (r_move (v := .int .i64 (j : Int)) rfl) ?_)
  refine wk_ok (r_sliceRaw (gg := gg) (a := j) (b := a.length) (m := cap) (len := a.length) (cap := cap) SliceOf76 rfl (.inr rfl) (.inl ⟨rfl, rfl⟩) (.inl ⟨rfl, rfl⟩) (by omega) (by omega) (by omega)) (wk_go ?_)
  refine wl_rawAppend (gg := gg) (cap := cap) (a := i) (m := a.length - j) (c := cap - j) (j := j) (ad := if cap = j then ⟨gg, 0, none⟩ else ⟨gg, j * 6, none⟩) ElemOf76 hraw rfl rfl (if hcj : cap = j then .inl (by omega) else .inr (if_neg hcj)) (by omega) (by omega) (rd_ones hrd (by omega)) ?_
  intro w hk2 hraw2
  replace hK := hK.step hk2 (fun x hx _ => hx)
  refine wl_ok (r_assign (v := .slice (some ⟨gg, 0, none⟩) (i + (a.length - j)) cap) rfl) (wl_nil (then_normal ?_))
  refine wc_seq (wc_region ?_)
  refine wl_ok (r_move (v := .slice (some ⟨gg, 0, none⟩) (i + (a.length - j)) cap) rfl) (wl_ok (r_move (v := .slice (some ⟨gg, 0, none⟩) (i + (a.length - j)) cap) rfl) ?_)
  refine wl_ok (r_len_slice (a := some ⟨gg, 0, none⟩) (l := i + (a.length - j)) (c := cap) SliceOf76 rfl) (wl_ok (r_move (v := .int .i64 (a.length : Nat)) rfl) ?_)
  refine wl_ok (r_sliceRaw (gg := gg) (a := i + (a.length - j)) (b := a.length) (m := cap) (len := i + (a.length - j)) (cap := cap) SliceOf76 rfl (.inr rfl) (.inr rfl) (.inl ⟨rfl, rfl⟩) (by omega) (by omega) (by omega)) ?_
  refine wl_clearRaw (gg := gg) (cap := cap) (m := i + (a.length - j)) (k := a.length - (i + (a.length - j))) (c := cap - (i + (a.length - j))) ElemOf76 ZeroOne82 hraw2 (congrArg (fun z => Value.slice (some z) (a.length - (i + (a.length - j))) (cap - (i + (a.length - j)))) (if_neg (by omega))) (by omega) (by omega) ?_
  intro w cur3 hk3 hraw3 hcur3
  replace hK := hK.step hk3 (fun x hx _ => hx)
  refine wl_nil (then_normal (wc_seq (wc_region ?_)))
  refine wl_ok (r_move (v := .slice (some ⟨gg, 0, none⟩) (i + (a.length - j)) cap) rfl) (wl_ok (r_assign (v := .slice (some ⟨gg, 0, none⟩) (i + (a.length - j)) cap) rfl) (wl_nil (then_normal (wc_ret ?_))))
  refine fin1 (v := .slice (some ⟨gg, 0, none⟩) (i + (a.length - j)) cap) Try.results51 rfl ?_
  refine ⟨_, rfl, raw_del hraw3 hraw0 hK (by omega) (by omega) hcap hrd ?_, hK, fun b hb _ => hb⟩
  exact hcur3.trans (del_len hraw0.len (by omega) hj hcap)
theorem slices_Insert_Stmt_c (w0 : World) (M N : BS) (va vb : Value) (a m : List GStmt) (i : Nat) (ha : OwnSl rStmt 82 w0 M va a) (hb : OwnSl rStmt 82 w0 N vb m) (hm : m.length = 1) (hN : ∀ b, (M b ∨ ob va b) → b < w0.heap.size → N b ∨ ob vb b) (hap : ∀ b, ob va b → ¬ ob vb b) (hi : i ≤ a.length) (hbig : (a.length + m.length) * 112 ≤ 140737488355328) (hmx : a.length + m.length ≤ 9223372036854775807) :
    Calls Try.prog 53 #[va, .int .i64 (i : Int), vb] w0 (fun e w' => ∃ u, e = .returned u ∧ OwnSl rStmt 82 w' M u (a.take i ++ m ++ a.drop i) ∧ Keep (ob va) w0 w' ∧ (∀ b, ob u b → b < w0.heap.size → ob va b)) := by
  refine calls_start (args := [va, .int .i64 (i : Int), vb]) Try.func53 rfl Try.ntmps53 (Nat.le_of_ble_eq_true rfl) ?_
  refine wc_seq (wc_region (wl_ok (r_assign rfl) (wl_nil (then_normal ?_))))
  obtain ⟨u0, hu0, -⟩ := r_sl (P := Try.prog) (T := 76) (a := (i : Int)) (b := (a.length : Int)) SliceOf76 ha.src (by omega) (by omega) (by omega)
  refine wc_seq (wc_region (wl_ok (r_move (v := va) rfl) (wl_ok (r_move (v := .int .i64 (i : Int)) rfl) (wl_ok (hu0 _ _ _ _ _ _ _ _ _ _ rfl (.inr rfl) (.inl ⟨rfl, rfl⟩)) (wl_nil (then_normal ?_))))))
  refine wc_seq (wc_region (wl_ok (r_move (v := vb) rfl) (wl_ok (r_len SliceOf76 rfl hb.src) (wl_ok (r_assign (v := .int .i64 (m.length : Int)) rfl) (wl_nil (then_normal ?_))))))
  refine wc_seq (wc_seq (wc_region (wl_ok (r_move (v := .int .i64 (m.length : Int)) rfl) (wl_ok (r_eql (p := (m.length : Int)) (q := 0) rfl rfl) (wl_nil (then_normal ?_))))))
  refine wc_if rfl (fun c => absurd (of_decide_eq_true c) (by omega)) (fun _ => wc_skip (then_normal ?_))
  refine wc_seq (wc_region (wl_ok (r_move (v := va) rfl) (wl_ok (r_len SliceOf76 rfl ha.src) (wl_ok (r_assign (v := .int .i64 (a.length : Int)) rfl) (wl_nil (then_normal ?_))))))
  refine wc_seq (wc_seq (wc_region (wl_ok (r_move (v := .int .i64 (i : Int)) rfl) (wl_ok (r_move (v := .int .i64 (a.length : Int)) rfl) (wl_ok (r_eql (p := (i : Int)) (q := (a.length : Int)) rfl rfl) (wl_nil (then_normal ?_)))))))
  refine wc_if rfl (fun c => ?_) (fun c => ?_)
  · have hin : i = a.length := by have := of_decide_eq_true c; omega
    refine wc_seq (wc_region (wl_ok (r_move (v := va) rfl) (wl_ok (r_move (v := vb) rfl) ?_)))
    refine wl_appO (A := fun b => M b ∨ ob va b) ElemOf76 rfl (OwnSl.go ha (Keep.refl BE _) (fun _ h => h.elim) (fun _ h => h.elim) (fun b hb _ => hb)) (hb.srcO.sub (fun _ h _ => h) hN) rfl rfl (fun b hb => .inr hb) hbig hmx fun w u h1 h2 h3 => ?_
    refine wl_ok (r_assign (v := u) rfl) (wl_nil (then_normal (wc_ret (then_ret ?_))))
    refine fin1 (v := u) Try.results53 rfl ?_
    refine ⟨_, rfl, ?_, h2, h3⟩
    rw [hin, List.take_length, List.drop_length, List.append_nil]
    exact OwnSl.go h1 (Keep.refl BE _) (fun _ h => h.elim) (fun _ h => h.elim) (fun b hb _ => .inl (.inl hb))
  · have hin : i < a.length := by have := of_decide_eq_false c; omega
    obtain ⟨gg, cap, cur, rfl, hraw0, hcap, hrd⟩ := own_raw ha (by omega)
    obtain ⟨bb, cb, curb, rfl, hrawb, hcapb, hrdb⟩ := own_raw hb (by omega)
    have hcm := hraw0.le
    unfold maxLen at hcm
    obtain ⟨x, rfl⟩ : ∃ x, m = [x] := by
      cases m with
      | nil => cases hm
      | cons x m => cases m with
        | nil => exact ⟨x, rfl⟩
        | cons y m => simp at hm
    have hxr : rStmt.rd w0 (fun b => N b ∨ b = bb) (curb.take 6) x := by have h := hrdb 0 (by simp); rw [Nat.zero_mul, List.drop_zero] at h; exact h
    have hne : gg ≠ bb := fun e => hap gg (by simp [ob]) (by simp [ob, e])
    have hggl := lt_of_blk hraw0.blk
    have hbbl := lt_of_blk hrawb.blk
    have hlen := hraw0.len
    have hcl : a.length * 6 ≤ cur.length := by rw [hlen]; exact Nat.mul_le_mul_right _ hcap
    have hil : i * 6 + 6 ≤ a.length * 6 := by rw [← Nat.succ_mul]; exact Nat.mul_le_mul_right _ hin
    have hsub : (a.length - i) * 6 = a.length * 6 - i * 6 := Nat.sub_mul _ _ _
    have hxl := rStmt.len hxr
    have hxl2 : (curb.take 6).length = 6 := hxl
    have hD : ((cur.drop (i * 6)).take ((a.length - i) * 6)).length = (a.length - i) * 6 := by rw [List.length_take, List.length_drop]; omega
    have hD1 := rd_ones hrd (j := i) (m := a.length - i) (by omega)
    have hN' : ∀ b, (M b ∨ b = gg) → b < w0.heap.size → N b ∨ b = bb := fun b hb hl => hN b (hb.imp id (fun hb => by simpa [ob] using hb)) hl
    refine wc_skip (then_normal ?_)
    refine wc_seq (wc_seq (wc_region (wl_ok (r_move (v := .int .i64 (a.length : Int)) rfl) (wl_ok (r_move (v := .int .i64 ([x].length : Int)) rfl) (wl_ok (r_add (p := (a.length : Int)) (q := ([x].length : Int)) rfl rfl (by simp only [List.length_singleton]; omega)) (wl_ok (r_move (v := .slice (some ⟨gg, 0, none⟩) a.length cap) rfl) (wl_ok (r_cap SliceOf76 rfl) (wl_ok (r_gtr (p := ((a.length : Int) + ([x].length : Int))) (q := (cap : Int)) rfl rfl) (wl_nil (then_normal ?_))))))))))
    refine wc_if rfl (fun c2 => ?_) (fun c2 => ?_)
    · have hgr : cap < a.length + 1 := by have := of_decide_eq_true c2; simp at this; omega
      refine wc_seq (wc_region ?_)
      refine wl_ok (r_move (v := .slice (some ⟨gg, 0, none⟩) a.length cap) rfl) (wl_ok (r_move (v := .int .i64 (i : Int)) rfl) (wl_ok (r_sliceTo (b := i) (ad := some ⟨gg, 0, none⟩) (len := a.length) (cap := cap) SliceOf76 rfl (.inr ⟨gg, rfl⟩) (.inl ⟨rfl, rfl⟩) rfl (by omega)) ?_))
      refine wl_ok (r_move (v := .int .i64 (a.length : Int)) rfl) (wl_ok (r_move (v := .int .i64 ([x].length : Int)) rfl) (wl_ok (r_add (p := (a.length : Int)) (q := ([x].length : Int)) rfl rfl (by simp only [List.length_singleton]; omega)) ?_))
      refine wl_ok (r_move (v := .int .i64 (i : Int)) rfl) (wl_ok (r_sub (p := ((a.length : Int) + ([x].length : Int))) (q := (i : Int)) rfl rfl (by simp only [List.length_singleton]; omega)) ?_)
      refine wl_growRaw (gg := gg) (cap := cap) (a := i) (k := a.length + 1 - i) ElemOf76 Try.underlying3 hraw0 rfl (congrArg (Value.int .i64) (by simp only [List.length_singleton]; omega)) (by decide) (by omega) (by omega) (by omega) (by simp only [List.length_singleton] at hbig; rw [show i + (a.length + 1 - i) = a.length + 1 by omega]; exact hbig) (by unfold maxLen; simp only [List.length_singleton] at hmx; omega) fun w g2 cap2 cur2 hk1 hg2 hcap2 hraw2 htk => ?_
      rw [show i + (a.length + 1 - i) = a.length + 1 by omega] at hcap2 ⊢
      have hne2 : g2 ≠ bb := by omega
      have hne3 : g2 ≠ gg := by omega
      have hl2 := hraw2.len
      have hc2l : (a.length + 1) * 6 ≤ cap2 * 6 := Nat.mul_le_mul_right _ hcap2
      rw [Nat.succ_mul] at hc2l
      refine wl_ok (r_assign (v := .slice (some ⟨g2, 0, none⟩) (a.length + 1) cap2) rfl) (wl_nil (then_normal ?_))
      refine wc_seq (wc_region ?_)
      refine wl_ok (r_move (v := .slice (some ⟨g2, 0, none⟩) (a.length + 1) cap2) rfl) (wl_ok (r_move (v := .int .i64 (i : Int)) rfl) (wl_ok (r_sliceRaw (gg := g2) (a := i) (b := a.length + 1) (m := cap2) (len := a.length + 1) (cap := cap2) SliceOf76 rfl (.inr rfl) (.inl ⟨rfl, rfl⟩) (.inl ⟨rfl, rfl⟩) (by omega) (by omega) (by omega)) ?_))
      refine wl_ok (r_move (v := .slice (some ⟨bb, 0, none⟩) [x].length cb) rfl) ?_
      have hrawb1 := hrawb.keep hk1 (fun h => h)
      refine wl_copyRaw (gg := g2) (cap := cap2) (o := i) (dl := a.length + 1 - i) (dc := cap2 - i) (m := [x].length) (c := cb) (ad := ⟨bb, 0, none⟩) (news := curb.take 6) ElemOf76 hraw2 (congrArg (fun z => Value.slice (some z) (a.length + 1 - i) (cap2 - i)) (if_neg (by omega))) rfl (by rw [show Nat.min [x].length (a.length + 1 - i) = 1 from Nat.min_eq_left (by simp; omega), Nat.one_mul]; exact hxl2) (fun j u hj => row_cells hrawb1 0 6 j u (by simpa using hj)) (rStmt.one hxr) (by rw [show Nat.min [x].length (a.length + 1 - i) = 1 from Nat.min_eq_left (by simp; omega)]; omega) fun w hk2 hraw3 => ?_
      refine wl_nil (then_normal ?_)
      have hK1 : Keep (fun y => y = gg) w0 w := hk1.keep.step hk2 (fun y hy hl => by omega)
      refine wc_seq (wc_tail0 8 mixed (by kernel_rfl) fun w hk3 => ?_)
      have hK2 : Keep (fun y => y = gg) w0 w := hK1.step hk3 (fun _ h => h.elim)
      have hraw3' := hraw3.keep hk3 (fun h => h)
      have hrawg : Raw w gg cap 6 82 cur := ((hraw0.keep hk1 (fun h => h)).keep hk2 (fun h => hne3 h.symm)).keep hk3 (fun h => h)
      refine wk_ok (r_move (v := .slice (some ⟨g2, 0, none⟩) (a.length + 1) cap2) rfl) (wk_ok (r_move (v := .int .i64 (i : Int)) rfl) (wk_ok (r_move (v := .int .i64 ([x].length : Int)) rfl) (wk_ok (r_add (p := (i : Int)) (q := ([x].length : Int)) rfl rfl (by simp only [List.length_singleton]; omega)) ?_)))
      refine wk_ok (r_sliceRaw (gg := g2) (a := i + 1) (b := a.length + 1) (m := cap2) (len := a.length + 1) (cap := cap2) SliceOf76 rfl (.inr rfl) (.inl ⟨rfl, rfl⟩) (.inl ⟨rfl, rfl⟩) (by omega) (by omega) (by omega)) ?_
      refine wk_ok (r_move (v := .slice (some ⟨gg, 0, none⟩) a.length cap) rfl) (wk_ok (r_move (v := .int .i64 (i : Int)) rfl) ?_)
      refine wk_ok (r_sliceRaw (gg := gg) (a := i) (b := a.length) (m := cap) (len := a.length) (cap := cap) SliceOf76 rfl (.inr rfl) (.inl ⟨rfl, rfl⟩) (.inl ⟨rfl, rfl⟩) (by omega) (by omega) (by omega)) (wk_go ?_)
      refine wl_copyRaw (gg := g2) (cap := cap2) (o := i + 1) (dl := a.length + 1 - (i + 1)) (dc := cap2 - (i + 1)) (m := a.length - i) (c := cap - i) (ad := ⟨gg, i * 6, none⟩) (news := (cur.drop (i * 6)).take ((a.length - i) * 6)) ElemOf76 hraw3' (congrArg (fun z => Value.slice (some z) (a.length + 1 - (i + 1)) (cap2 - (i + 1))) (if_neg (by omega))) (congrArg (fun z => Value.slice (some z) (a.length - i) (cap - i)) (if_neg (by omega))) (by rw [show Nat.min (a.length - i) (a.length + 1 - (i + 1)) = a.length - i from Nat.min_eq_left (by omega)]; exact hD) (row_cells hrawg (i * 6) ((a.length - i) * 6)) hD1 (by rw [show Nat.min (a.length - i) (a.length + 1 - (i + 1)) = a.length - i from Nat.min_eq_left (by omega)]; omega) fun w hk4 hraw4 => ?_
      refine wl_nil (then_normal (wc_seq (wc_region (wl_ok (r_move (v := .slice (some ⟨g2, 0, none⟩) (a.length + 1) cap2) rfl) (wl_ok (r_assign (v := .slice (some ⟨g2, 0, none⟩) (a.length + 1) cap2) rfl) (wl_nil (then_normal (wc_ret (then_ret ?_)))))))))
      have hK3 : Keep (fun y => y = gg) w0 w := hK2.step hk4 (fun y hy hl => by have : y = g2 := hy; omega)
      refine fin1 (v := .slice (some ⟨g2, 0, none⟩) (a.length + 1) cap2) Try.results53 rfl ?_
      refine ⟨_, rfl, raw_ins hraw4 hK3 (fun h => by omega) (by omega) hcap2 hcl hrd hxr hN' hggl ?_, hK3.weaken (fun y hy _ => by simp [ob]; exact hy), fun b hb hl => by simp [ob] at hb; omega⟩
      have hm1 : (i + 1) * 6 = i * 6 + 6 := Nat.succ_mul _ _
      have hq : ((cur2.take (i * 6) ++ curb.take 6 ++ cur2.drop (i * 6 + (curb.take 6).length))).length = cap2 * 6 := hraw3.len
      rw [hm1]
      show List.take (i * 6 + 6 + (a.length - i) * 6) _ = List.take (i * 6) cur ++ curb.take 6 ++ List.take ((a.length - i) * 6) (List.drop (i * 6) cur)
      refine (ins_l2 (by rw [hq]; omega) hD).trans ?_
      rw [hxl2, ins_l1 hxl2 (by omega), htk]
    · have hroom : a.length + 1 ≤ cap := by have := of_decide_eq_false c2; simp at this; omega
      have hc2l : (a.length + 1) * 6 ≤ cap * 6 := Nat.mul_le_mul_right _ hroom
      rw [Nat.succ_mul] at hc2l
      have hm1 : (i + 1) * 6 = i * 6 + 6 := Nat.succ_mul _ _
      refine wc_skip (then_normal ?_)
      refine wc_seq (wc_region ?_)
      refine wl_ok (r_move (v := .slice (some ⟨gg, 0, none⟩) a.length cap) rfl) (wl_ok (r_move (v := .int .i64 (a.length : Int)) rfl) (wl_ok (r_move (v := .int .i64 ([x].length : Int)) rfl) (wl_ok (r_add (p := (a.length : Int)) (q := ([x].length : Int)) rfl rfl (by simp only [List.length_singleton]; omega)) ?_)))
      refine wl_ok (r_sliceTo (b := a.length + 1) (ad := some ⟨gg, 0, none⟩) (len := a.length) (cap := cap) SliceOf76 rfl (.inr ⟨gg, rfl⟩) (.inl ⟨rfl, rfl⟩) rfl (by omega)) (wl_ok (r_assign (v := .slice (some ⟨gg, 0, none⟩) (a.length + 1) cap) rfl) (wl_nil (then_normal ?_)))
      refine wc_seq (wc_seq (wc_region ?_))
      refine wl_ok (r_move (v := .slice (some ⟨bb, 0, none⟩) [x].length cb) rfl) (wl_ok (r_move (v := .slice (some ⟨gg, 0, none⟩) (a.length + 1) cap) rfl) (wl_ok (r_move (v := .int .i64 (i : Int)) rfl) (wl_ok (r_move (v := .int .i64 ([x].length : Int)) rfl) (wl_ok (r_add (p := (i : Int)) (q := ([x].length : Int)) rfl rfl (by simp only [List.length_singleton]; omega)) ?_))))
      refine wl_ok (r_sliceRaw (gg := gg) (a := i + 1) (b := a.length + 1) (m := cap) (len := a.length + 1) (cap := cap) SliceOf76 rfl (.inr rfl) (.inl ⟨rfl, rfl⟩) (.inl ⟨rfl, rfl⟩) (by omega) (by omega) (by omega)) ?_
      refine wl_overlaps (g1 := bb) (g2 := gg) (o1 := 0) (o2 := (i + 1) * 6) (m1 := [x].length) (k1 := cb) (m2 := a.length + 1 - (i + 1)) (k2 := cap - (i + 1)) Over98 ElemOf76 hrawb.blk hraw0 (fun e => hne e.symm) (by omega) rfl (la_cons rfl (la_cons (congrArg (fun z => Value.slice (some z) (a.length + 1 - (i + 1)) (cap - (i + 1))) (if_neg (by omega))) rfl)) ?_
      refine wl_ok (r_notb rfl) (wl_nil (then_normal ?_))
      refine wc_ift rfl ?_
      refine wc_seq (wc_tail0 8 mixed (by kernel_rfl) fun w hk1 => ?_)
      have hraw1 := hraw0.keep hk1 (fun h => h)
      have hrawb1 := hrawb.keep hk1 (fun h => h)
      have hK1 : Keep (fun y => y = gg) w0 w := hk1.keep
      refine wk_ok (r_move (v := .slice (some ⟨gg, 0, none⟩) (a.length + 1) cap) rfl) (wk_ok (r_move (v := .int .i64 (i : Int)) rfl) (wk_ok (r_move (v := .int .i64 ([x].length : Int)) rfl) (wk_ok (r_add (p := (i : Int)) (q := ([x].length : Int)) rfl rfl (by simp only [List.length_singleton]; omega)) ?_)))
      refine wk_ok (r_sliceRaw (gg := gg) (a := i + 1) (b := a.length + 1) (m := cap) (len := a.length + 1) (cap := cap) SliceOf76 rfl (.inr rfl) (.inl ⟨rfl, rfl⟩) (.inl ⟨rfl, rfl⟩) (by omega) (by omega) (by omega)) ?_
      refine wk_ok (r_move (v := .slice (some ⟨gg, 0, none⟩) (a.length + 1) cap) rfl) (wk_ok (r_move (v := .int .i64 (i : Int)) rfl) ?_)
      refine wk_ok (r_sliceRaw (gg := gg) (a := i) (b := a.length + 1) (m := cap) (len := a.length + 1) (cap := cap) SliceOf76 rfl (.inr rfl) (.inl ⟨rfl, rfl⟩) (.inl ⟨rfl, rfl⟩) (by omega) (by omega) (by omega)) (wk_go ?_)
      refine wl_copyRaw (gg := gg) (cap := cap) (o := i + 1) (dl := a.length + 1 - (i + 1)) (dc := cap - (i + 1)) (m := a.length + 1 - i) (c := cap - i) (ad := ⟨gg, i * 6, none⟩) (news := (cur.drop (i * 6)).take ((a.length - i) * 6)) ElemOf76 hraw1 (congrArg (fun z => Value.slice (some z) (a.length + 1 - (i + 1)) (cap - (i + 1))) (if_neg (by omega))) (congrArg (fun z => Value.slice (some z) (a.length + 1 - i) (cap - i)) (if_neg (by omega))) (by rw [show Nat.min (a.length + 1 - i) (a.length + 1 - (i + 1)) = a.length - i from (Nat.min_eq_right (by omega)).trans (by omega)]; exact hD) (row_cells hraw1 (i * 6) ((a.length - i) * 6)) hD1 (by rw [show Nat.min (a.length + 1 - i) (a.length + 1 - (i + 1)) = a.length - i from (Nat.min_eq_right (by omega)).trans (by omega)]; omega) fun w hk2 hraw2 => ?_
      have hK2 : Keep (fun y => y = gg) w0 w := hK1.step hk2 (fun _ h _ => h)
      have hrawb2 := hrawb1.keep hk2 (fun h => hne h.symm)
      refine wl_nil (then_normal (wc_seq (wc_region ?_)))
      refine wl_ok (r_move (v := .slice (some ⟨gg, 0, none⟩) (a.length + 1) cap) rfl) (wl_ok (r_move (v := .int .i64 (i : Int)) rfl) ?_)
      refine wl_ok (r_sliceRaw (gg := gg) (a := i) (b := a.length + 1) (m := cap) (len := a.length + 1) (cap := cap) SliceOf76 rfl (.inr rfl) (.inl ⟨rfl, rfl⟩) (.inl ⟨rfl, rfl⟩) (by omega) (by omega) (by omega)) ?_
      refine wl_ok (r_move (v := .slice (some ⟨bb, 0, none⟩) [x].length cb) rfl) ?_
      refine wl_copyRaw (gg := gg) (cap := cap) (o := i) (dl := a.length + 1 - i) (dc := cap - i) (m := [x].length) (c := cb) (ad := ⟨bb, 0, none⟩) (news := curb.take 6) ElemOf76 hraw2 (congrArg (fun z => Value.slice (some z) (a.length + 1 - i) (cap - i)) (if_neg (by omega))) rfl (by rw [show Nat.min [x].length (a.length + 1 - i) = 1 from Nat.min_eq_left (by simp; omega), Nat.one_mul]; exact hxl2) (fun j u hj => row_cells hrawb2 0 6 j u (by simpa using hj)) (rStmt.one hxr) (by rw [show Nat.min [x].length (a.length + 1 - i) = 1 from Nat.min_eq_left (by simp; omega)]; omega) fun w hk3 hraw3 => ?_
      have hK3 : Keep (fun y => y = gg) w0 w := hK2.step hk3 (fun _ h _ => h)
      refine wl_nil (then_normal (wc_seq (wc_region (wl_ok (r_move (v := .slice (some ⟨gg, 0, none⟩) (a.length + 1) cap) rfl) (wl_ok (r_assign (v := .slice (some ⟨gg, 0, none⟩) (a.length + 1) cap) rfl) (wl_nil (then_normal (wc_ret (then_ret ?_)))))))))
      refine fin1 (v := .slice (some ⟨gg, 0, none⟩) (a.length + 1) cap) Try.results53 rfl ?_
      refine ⟨_, rfl, raw_ins hraw3 hK3 (fun _ => rfl) (by omega) hroom hcl hrd hxr hN' hggl ?_, hK3, fun b hb _ => hb⟩
      show List.take (i * 6 + 6 + (a.length - i) * 6) _ = List.take (i * 6) cur ++ curb.take 6 ++ List.take ((a.length - i) * 6) (List.drop (i * 6) cur)
      rw [hxl2, hm1]
      exact ins_l3 hxl2 (by omega) hD
def wandererlaw_SourceParts_j3 (N : Nat) (x49 : List Fun) : Option Bool :=
  (source_Check N x49).bind fun y50 => some (decide ((y50 : Int) = 0) || decide ((y50 : Int) = 2))
def wandererlaw_SourceParts_j2 (N : Nat) (b : Int) (a : List Fun) (c : Int) (x1 : Bool) : Option Bool :=
  bif x1 then (wandererlaw_typed N).bind fun y3 => some y3 else (wandererlaw_at b (a.length : Int)).bind fun y6 => (idx a y6).bind fun x9 => bif decide (((x9.body.length : Int) : Int) = 0) then some true else (wandererlaw_at c (x9.body.length : Int)).bind fun y19 => (clone 40 a).bind fun y22 => (clone 112 x9.body).bind fun y28 => grd (I64 (y19 + 1)) ((del1 y28 y19 (y19 + 1)).bind fun y35 => (idx y22 y6).bind fun x40 => (source_Check N (y22.set (y6).toNat { x40 with body := y35 })).bind fun y45 => bif decide ((y45 : Int) ≠ 0) then some false else (idx x9.body y19).bind fun x89 => (clone 112 x9.body).bind fun y106 => grd (Room 112 y106 [x89]) ((ins1 y106 y19 [x89]).bind fun y114 => (idx (y22.set (y6).toNat { x40 with body := y35 }) y6).bind fun x119 => wandererlaw_SourceParts_j3 N ((y22.set (y6).toNat { x40 with body := y35 }).set (y6).toNat { x119 with body := y114 })))
def wandererlaw_SourceParts (N : Nat) (a : List Fun) (b : Int) (c : Int) : Option Bool :=
  (wandererlaw_typed N).bind fun y144 => bif (!y144) then wandererlaw_SourceParts_j2 N b a c true else (source_Check N a).bind fun y148 => wandererlaw_SourceParts_j2 N b a c (decide ((y148 : Int) ≠ 0))
theorem wandererlaw_SourceParts_c (N : Nat) (w0 : World) (M : BS) (hM : ∀ b, M b → b < w0.heap.size) (va : Value) (a : List Fun) (ha : Rd2 rFun w0 BE M va a) (b : Int) (c : Int) (r : Bool) (hs : wandererlaw_SourceParts N a b c = some r) :
    Calls Try.prog 11 #[va, (.int .i64 (b)), (.int .i64 (c))] w0 (fun e w' => Grow w0 w' ∧ e = .returned (.bool r)) := by
 refine calls_start (args := [va, (.int .i64 (b)), (.int .i64 (c))]) Try.func11 rfl Try.ntmps11 (Nat.le_of_ble_eq_true rfl) ?_
 have h := SH.init hM
 replace h := h.argSr 1 ha none_own
 have hl_a := ha.len_le
 refine wc_seq (wc_region (wl_ok (r_assign (v := (.bool (false))) rfl) (wl_nil (then_normal (wc_seq (wc_join (σ := Bool) (inl [10, 11, 12, 13, 14, 15, 16]) (fun x1 => [(16, (.bool (x1)))]) (fun x1 w => SH w0 M BE w (hset [(1, .sr rFun va a)]) ∧ wandererlaw_SourceParts_j2 N b a c x1 = some r) ?_ ?_))))))
 ·
  rintro x1 w junk ⟨h, hs⟩
  refine wc_ifb hs rfl (fun c2 hs => ?_) (fun c2 hs => ?_)
  ·
   refine wc_seq (wc_region ?_)
   obtain ⟨y3, e4, hs⟩ := o_bind hs
   refine w_call fnOk43 rfl rfl (wandererlaw_typed_c N _ _ h.lt  _ e4) ?_
   rintro _ w ⟨k5, rfl⟩
   refine ⟨_, rfl, ?_⟩
   replace h := h.grow k5
   refine wl_ok (r_assign (v := (.bool (y3))) rfl) (wl_nil (then_normal (wc_ret (then_ret (fin1 (v := (.bool (y3))) Try.results11 rfl ?_)))))
   obtain rfl := Option.some.inj hs
   exact ⟨h.grown, rfl⟩
  ·
   refine wc_skip (then_normal (wc_seq (wc_region (wl_ok (r_move (v := (.int .i64 (b))) rfl) (wl_ok (r_move (v := va) rfl) (wl_ok (r_len SliceOf70 rfl (h.srS 1 rfl)) ?_))))))
   obtain ⟨y6, e7, hs⟩ := o_bind hs
   refine w_call fnOk27 rfl rfl (wandererlaw_at_c _ _ h.lt b (a.length : Int) _ e7) ?_
   rintro _ w ⟨k8, rfl⟩
   refine ⟨_, rfl, ?_⟩
   replace h := h.grow k8
   refine wl_ok (r_assign (v := (.int .i64 (y6))) rfl) (wl_nil (then_normal (wc_seq (wc_region (wl_ok (r_move (v := va) rfl) (wl_ok (r_move (v := (.int .i64 (y6))) rfl) ?_))))))
   obtain ⟨x9, e10, hs⟩ := o_bind hs
   obtain ⟨b12, o13, cs14, h, r15, i11⟩ := h.ixS 1 2 rfl SliceOf70 rfl (o_idx e10).1 (o_idx e10).2
   obtain ⟨u16, rfl, g17⟩ := rFun_open r15
   replace h := h.knowRd 3 g17.up
   refine wl_ok (i11 _ _ _ _ _ _ _ _ _ rfl rfl) (wl_ok (r_fieldAddr Fld78x2 rfl) (wl_ok (r_ldP (k := 2) h 2 rfl One76 rfl rfl) (wl_ok (r_assign (v := u16) rfl) (wl_nil (then_normal (wc_seq (wc_seq (wc_region (wl_ok (r_move (v := u16) rfl) (wl_ok (r_len SliceOf76 rfl (h.rdS 3 rfl)) (wl_ok (r_eql rfl rfl) (wl_nil (then_normal (wc_ifb hs rfl (fun c18 hs => ?_) (fun c18 hs => ?_)))))))))))))))
   ·
    refine wc_seq (wc_region (wl_ok (r_assign (v := (.bool (true))) rfl) (wl_nil (then_normal (wc_ret (then_ret (fin1 (v := (.bool (true))) Try.results11 rfl ?_)))))))
    obtain rfl := Option.some.inj hs
    exact ⟨h.grown, rfl⟩
   ·
    refine wc_skip (then_normal (wc_seq (wc_region (wl_ok (r_move (v := (.int .i64 (c))) rfl) (wl_ok (r_move (v := u16) rfl) (wl_ok (r_len SliceOf76 rfl (h.rdS 3 rfl)) ?_))))))
    obtain ⟨y19, e20, hs⟩ := o_bind hs
    refine w_call fnOk27 rfl rfl (wandererlaw_at_c _ _ h.lt c (x9.body.length : Int) _ e20) ?_
    rintro _ w ⟨k21, rfl⟩
    refine ⟨_, rfl, ?_⟩
    replace h := h.grow k21
    refine wl_ok (r_assign (v := (.int .i64 (y19))) rfl) (wl_nil (then_normal (wc_seq (wc_region (wl_ok (r_move (v := va) rfl) ?_)))))
    obtain ⟨y22, e23, hs⟩ := o_bind hs
    refine w_call fnOk50 rfl rfl (slices_Clone_Fun_c _ _ h.lt va a (h.srS 1 rfl) _ e23) ?_
    rintro _ w ⟨k27, u24, rfl, g25, g26⟩
    refine ⟨_, rfl, ?_⟩
    replace h := h.gotOwn 4 k27 g25 g26
    refine wl_ok (r_assign (v := u24) rfl) (wl_nil (then_normal (wc_seq (wc_region (wl_ok (r_move (v := u24) rfl) (wl_ok (r_move (v := (.int .i64 (y6))) rfl) (wl_ok (r_move (v := u16) rfl) ?_)))))))
    obtain ⟨y28, e29, hs⟩ := o_bind hs
    refine w_call fnOk52 rfl rfl (slices_Clone_Stmt_c _ _ h.lt u16 x9.body (h.rdS 3 rfl) _ e29) ?_
    rintro _ w ⟨k33, u30, rfl, g31, g32⟩
    refine ⟨_, rfl, ?_⟩
    replace h := h.gotOwn 5 k33 g31 g32
    refine wl_ok (r_move (v := (.int .i64 (y19))) rfl) (wl_ok (r_move (v := (.int .i64 (y19))) rfl) ?_)
    obtain ⟨a34, hs⟩ := o_grd hs
    refine wl_ok (r_add rfl rfl a34) ?_
    obtain ⟨y35, e36, hs⟩ := o_bind hs
    obtain ⟨n38, n39, e36a, e36b, e36c, e36d, e36e⟩ := o_del e36
    refine w_call fnOk51 rfl (la_cons rfl (la_cons (congrArg (Value.int .i64) e36a) (la_cons (congrArg (Value.int .i64) e36b) rfl))) (slices_Delete_Stmt_c _ _ u30 y28 n38 n39 (h.giveO 5 rfl) e36c e36d) ?_
    rintro _ w ⟨u37, rfl, e36f, e36g, e36h⟩
    refine ⟨_, rfl, ?_⟩
    replace h := h.given 5 rfl e36f e36g e36h
    rw [← e36e] at h
    obtain ⟨x40, e41, hs⟩ := o_bind hs
    obtain ⟨b43, q44, i42⟩ := h.ixO 4 rfl SliceOf70 rfl (o_idx e41).1 (o_idx e41).2
    refine wl_ok (i42 _ _ _ _ _ _ _ _ _ rfl rfl) (wl_ok (r_fieldAddr Fld78x2 rfl) ?_)
    replace h := h.freeze 5 rfl
    refine w_stO (a' := { x40 with body := y35 }) h 4 rfl q44 rfl (o_idx e41).2 One76 rfl rfl (h.rdAt 5 rfl).one rfl (by rintro _ hq; obtain ⟨p2, rfl, q2⟩ := rFun_open hq; exact ⟨_, rfl, (h.rdAt 5 rfl)⟩) fun w h => wl_nil (then_normal (wc_seq (wc_seq (wc_region (wl_ok (r_move (v := u24) rfl) ?_)))))
    obtain ⟨y45, e46, hs⟩ := o_bind hs
    refine w_call fnOk44 rfl rfl (source_Check_c N _ _ h.lt u24 (y22.set (y6).toNat { x40 with body := y35 }) (h.ownS 4 rfl) _ e46) ?_
    rintro _ w ⟨k47, rfl⟩
    refine ⟨_, rfl, ?_⟩
    replace h := h.grow k47
    refine wl_ok (r_neq rfl rfl) (wl_nil (then_normal (wc_ifb hs rfl (fun c48 hs => ?_) (fun c48 hs => ?_))))
    ·
     refine wc_seq (wc_region (wl_ok (r_assign (v := (.bool (false))) rfl) (wl_nil (then_normal (wc_ret (then_ret (fin1 (v := (.bool (false))) Try.results11 rfl ?_)))))))
     obtain rfl := Option.some.inj hs
     exact ⟨h.grown, rfl⟩
    ·
     refine wc_skip (then_normal (wc_join (σ := List Fun) (inl [49, 50, 51, 52, 53, 54, 55, 56, 57, 58, 59, 60, 61]) (fun x49 => []) (fun x49 w => SH w0 M BE w (hset [(4, .own rFun 78 u24 x49)]) ∧ wandererlaw_SourceParts_j3 N x49 = some r) ?_ ?_))
     ·
      rintro x49 w junk ⟨h, hs⟩
      refine wc_seq (wc_region (wl_ok (r_move (v := u24) rfl) ?_))
      obtain ⟨y50, e51, hs⟩ := o_bind hs
      refine w_call fnOk44 rfl rfl (source_Check_c N _ _ h.lt u24 x49 (h.ownS 4 rfl) _ e51) ?_
      rintro _ w ⟨k52, rfl⟩
      refine ⟨_, rfl, ?_⟩
      replace h := h.grow k52
      refine wl_ok (r_assign (v := (.int .i64 (y50))) rfl) (wl_nil (then_normal (wc_seq (wc_region (wl_ok (r_move (v := (.int .i64 (y50))) rfl) (wl_ok (r_eql rfl rfl) (wl_ok (r_move (v := (.bool (decide ((y50 : Int) = 0)))) rfl) (wl_gd0 rfl rfl (fun q => r_move (v := (.int .i64 (y50))) rfl) (wl_gd0 rfl rfl (fun q => r_eql (gvt q) rfl) (wl_ok (r_por rfl rfl evc) (wl_ok (r_assign (v := (.bool ((decide ((y50 : Int) = 0) || decide ((y50 : Int) = 2))))) rfl) (wl_nil (then_normal (wc_ret (fin1 (v := (.bool ((decide ((y50 : Int) = 0) || decide ((y50 : Int) = 2))))) Try.results11 rfl ?_)))))))))))))))
      obtain rfl := Option.some.inj hs
      exact ⟨h.grown, rfl⟩
     ·
      refine wck_held (L := ob u24) mixed h fun w h => whk_ok 0 (Keep.refl _ _) rfl want_none (by kernel_rfl) (by kernel_rfl) (by kernel_rfl) (fun w hk => r_move (v := u24) rfl) (whk_ok 1 (Keep.refl _ _) rfl want_none (by kernel_rfl) (by kernel_rfl) (by kernel_rfl) (fun w hk => r_move (v := (.int .i64 (y6))) rfl) (whk_ok 2 (Keep.refl _ _) rfl want_none (by kernel_rfl) (by kernel_rfl) (by kernel_rfl) (fun w hk => r_move (v := u16) rfl) (whk_ok 4 (Keep.refl _ _) rfl want_none (by kernel_rfl) (by kernel_rfl) (by kernel_rfl) (fun w hk => r_move (v := (.int .i64 (y19))) rfl) (whk_ok 5 (Keep.refl _ _) rfl want_none (by kernel_rfl) (by kernel_rfl) (by kernel_rfl) (fun w hk => r_move (v := u16) rfl) (whk_ok 6 (Keep.refl _ _) rfl want_none (by kernel_rfl) (by kernel_rfl) (by kernel_rfl) (fun w hk => r_move (v := (.int .i64 (y19))) rfl) ?_)))))
      obtain ⟨x89, e90, hs⟩ := o_bind hs
      obtain ⟨b92, o93, cs94, h, r95, i91⟩ := h.ixR 3 6 rfl SliceOf76 rfl (o_idx e90).1 (o_idx e90).2
      obtain ⟨u96, u98, u100, u102, rfl, g97, g99, g101, g103⟩ := rStmt_open r95
      replace h := h.knowRd 7 g97.up
      replace h := h.knowRd 8 g99.up.up
      replace h := h.knowRd 9 g101.up.up.up
      replace h := h.knowRd 10 g103.up.up.up.up
      refine whk_ok 7 (Keep.refl _ _) rfl want_none (by kernel_rfl) (by kernel_rfl) (by kernel_rfl) (fun w hk => i91 _ _ _ _ _ _ _ _ _ rfl rfl) (whk_ok 8 (Keep.refl _ _) rfl want_none (by kernel_rfl) (by kernel_rfl) (by kernel_rfl) (fun w hk => have h := h.lose 4 rfl hk; r_ldPN (k := 0) (vs := [(.int .i64 (x89.kind)), (.int .i64 (x89.n)), u96, u98, u100, u102]) h 6 rfl Many82 rfl rfl rfl (Nat.le_of_ble_eq_true rfl)) ?_)
      obtain ⟨ws104, ws104e⟩ : ∃ x, x = w := ⟨_, rfl⟩
      have hg105 : Keep (ob u24) ws104 w := ws104e ▸ Keep.refl (ob u24) w
      refine whk_at ws104e.symm (whk_eff2 3 9 (by kernel_rfl) rfl want_none rfl want_none ?_ ?_)
      ·
       obtain ⟨y106, e107, hs⟩ := o_bind hs
       refine w_call fnOk52 rfl rfl (slices_Clone_Stmt_c _ _ h.lt u16 x9.body (h.rdS 3 rfl) _ e107) ?_
       rintro _ w ⟨k111, u108, rfl, g109, g110⟩
       refine ⟨_, rfl, ?_⟩
       replace h := h.gotOwn 11 k111 g109 g110
       have u108q : ∀ b, ob u108 b → ws104.heap.size ≤ b := fun b hb => Nat.le_trans hg105.size (g110 b hb)
       replace hg105 := hg105.grow k111
       refine wl_nil (whk_back hg105 (whk_eff 9 (by kernel_rfl) rfl want_none (w_bsG (R := rStmt) (vs := [(.agg #[(.int .i64 (x89.kind)), (.int .i64 (x89.n)), u96, u98, u100, u102])]) (xs := [x89]) h 12 ElemOf76 rfl rfl rfl ⟨(rStmt_mk ⟨_, _, _, _, rfl, (h.rdAt 7 rfl), (h.rdAt 8 rfl), (h.rdAt 9 rfl), (h.rdAt 10 rfl)⟩), trivial⟩ rfl fun w u112 h u112k u112f => ?_)))
       have u112q : ∀ b, ob u112 b → ws104.heap.size ≤ b := fun b hb => Nat.le_trans hg105.size (u112f b hb)
       replace hg105 := hg105.grow u112k
       refine wl_nil (whk_back hg105 (whk_eff 10 (by kernel_rfl) rfl want_none ?_))
       obtain ⟨a113, hs⟩ := o_grd hs
       obtain ⟨y114, e115, hs⟩ := o_bind hs
       obtain ⟨n117, e115a, e115b, e115c⟩ := o_ins e115
       have z118 := hg105.size
       refine w_call fnOk53 rfl (la_cons rfl (la_cons (congrArg (Value.int .i64) e115a) rfl)) (slices_Insert_Stmt_c _ _ _ u108 u112 y106 [x89] n117 (h.giveO 11 rfl) (h.giveO 12 rfl) rfl (ins_av h (by decide) rfl rfl) (h.apart 11 12 (by decide)) e115b a113.1 a113.2) ?_
       rintro _ w ⟨u116, rfl, e115f, e115g, e115h⟩
       refine ⟨_, rfl, ?_⟩
       replace h := h.given 11 rfl e115f e115g e115h
       replace hg105 := hg105.freshK e115g u108q
       have u116q : ∀ b, ob u116 b → ws104.heap.size ≤ b := fun b hb => Nat.le_of_not_lt (fun hl => Nat.not_lt_of_le (u108q b (e115h b hb (Nat.lt_of_lt_of_le hl z118))) hl)
       rw [← e115c] at h
       refine wl_nil (whk_back hg105 ?_)
       obtain ⟨x119, e120, hs⟩ := o_bind hs
       obtain ⟨b122, q123, i121⟩ := h.ixO 4 rfl SliceOf70 rfl (o_idx e120).1 (o_idx e120).2
       refine whk_ok 11 hg105 rfl want_none (by kernel_rfl) (by kernel_rfl) (by kernel_rfl) (fun w hk => i121 _ _ _ _ _ _ _ _ _ rfl rfl) (whk_ok 12 hg105 rfl want_none (by kernel_rfl) (by kernel_rfl) (by kernel_rfl) (fun w hk => r_fieldAddr Fld78x2 rfl) (whk_eff 13 (by kernel_rfl) rfl want_none ?_))
       replace h := h.freeze 11 rfl
       refine w_stOG (a' := { x119 with body := y114 }) h 4 rfl q123 rfl (o_idx e120).2 One76 rfl rfl (h.rdAt 11 rfl).one rfl (by rintro _ hq; obtain ⟨p2, rfl, q2⟩ := rFun_open hq; exact ⟨_, rfl, (h.rdAt 11 rfl)⟩) fun w h k124 => ?_
       replace hg105 := hg105.same k124
       refine wl_nil (whk_back hg105 (whk_done (by kernel_rfl) (then_loop ?_)))
       exact jend ((y22.set (y6).toNat { x40 with body := y35 }).set (y6).toNat { x119 with body := y114 }) ⟨h.cn _, hs⟩
      ·
       refine w_bsG (R := rStmt) (vs := [(.agg #[(.int .i64 (x89.kind)), (.int .i64 (x89.n)), u96, u98, u100, u102])]) (xs := [x89]) h 13 ElemOf76 rfl rfl rfl ⟨(rStmt_mk ⟨_, _, _, _, rfl, (h.rdAt 7 rfl), (h.rdAt 8 rfl), (h.rdAt 9 rfl), (h.rdAt 10 rfl)⟩), trivial⟩ rfl fun w u125 h u125k u125f => ?_
       have u125q : ∀ b, ob u125 b → ws104.heap.size ≤ b := fun b hb => Nat.le_trans hg105.size (u125f b hb)
       replace hg105 := hg105.grow u125k
       refine wl_nil (whk_back hg105 (whk_eff 3 (by kernel_rfl) rfl want_none ?_))
       obtain ⟨y126, e127, hs⟩ := o_bind hs
       refine w_call fnOk52 rfl rfl (slices_Clone_Stmt_c _ _ h.lt u16 x9.body (h.rdS 3 rfl) _ e127) ?_
       rintro _ w ⟨k131, u128, rfl, g129, g130⟩
       refine ⟨_, rfl, ?_⟩
       replace h := h.gotOwn 14 k131 g129 g130
       have u128q : ∀ b, ob u128 b → ws104.heap.size ≤ b := fun b hb => Nat.le_trans hg105.size (g130 b hb)
       replace hg105 := hg105.grow k131
       refine wl_nil (whk_back hg105 (whk_eff 10 (by kernel_rfl) rfl want_none ?_))
       obtain ⟨a132, hs⟩ := o_grd hs
       obtain ⟨y133, e134, hs⟩ := o_bind hs
       obtain ⟨n136, e134a, e134b, e134c⟩ := o_ins e134
       have z137 := hg105.size
       refine w_call fnOk53 rfl (la_cons rfl (la_cons (congrArg (Value.int .i64) e134a) rfl)) (slices_Insert_Stmt_c _ _ _ u128 u125 y126 [x89] n136 (h.giveO 14 rfl) (h.giveO 13 rfl) rfl (ins_av h (by decide) rfl rfl) (h.apart 14 13 (by decide)) e134b a132.1 a132.2) ?_
       rintro _ w ⟨u135, rfl, e134f, e134g, e134h⟩
       refine ⟨_, rfl, ?_⟩
       replace h := h.given 14 rfl e134f e134g e134h
       replace hg105 := hg105.freshK e134g u128q
       have u135q : ∀ b, ob u135 b → ws104.heap.size ≤ b := fun b hb => Nat.le_of_not_lt (fun hl => Nat.not_lt_of_le (u128q b (e134h b hb (Nat.lt_of_lt_of_le hl z137))) hl)
       rw [← e134c] at h
       refine wl_nil (whk_back hg105 ?_)
       obtain ⟨x138, e139, hs⟩ := o_bind hs
       obtain ⟨b141, q142, i140⟩ := h.ixO 4 rfl SliceOf70 rfl (o_idx e139).1 (o_idx e139).2
       refine whk_ok 11 hg105 rfl want_none (by kernel_rfl) (by kernel_rfl) (by kernel_rfl) (fun w hk => i140 _ _ _ _ _ _ _ _ _ rfl rfl) (whk_ok 12 hg105 rfl want_none (by kernel_rfl) (by kernel_rfl) (by kernel_rfl) (fun w hk => r_fieldAddr Fld78x2 rfl) (whk_eff 13 (by kernel_rfl) rfl want_none ?_))
       replace h := h.freeze 14 rfl
       refine w_stOG (a' := { x138 with body := y133 }) h 4 rfl q142 rfl (o_idx e139).2 One76 rfl rfl (h.rdAt 14 rfl).one rfl (by rintro _ hq; obtain ⟨p2, rfl, q2⟩ := rFun_open hq; exact ⟨_, rfl, (h.rdAt 14 rfl)⟩) fun w h k143 => ?_
       replace hg105 := hg105.same k143
       refine wl_nil (whk_back hg105 (whk_done (by kernel_rfl) (then_loop ?_)))
       exact jend ((y22.set (y6).toNat { x40 with body := y35 }).set (y6).toNat { x138 with body := y133 }) ⟨h.cn _, hs⟩
 ·
  refine wc_region ?_
  obtain ⟨y144, e145, hs⟩ := o_bind hs
  refine w_call fnOk43 rfl rfl (wandererlaw_typed_c N _ _ h.lt  _ e145) ?_
  rintro _ w ⟨k146, rfl⟩
  refine ⟨_, rfl, ?_⟩
  replace h := h.grow k146
  refine wl_ok (r_notb rfl) (wl_ok (r_move (v := (.bool ((!y144)))) rfl) (c_split (b := (!y144)) hs (fun c147 hs => ?_) (fun c147 hs => ?_)))
  ·
   refine wl_off (b' := true) rfl (congrArg Value.bool c147) rfl (wl_off (b' := true) rfl (congrArg Value.bool c147) rfl (wl_off (b' := true) rfl (congrArg Value.bool c147) rfl (wl_ok (r_pick (b := true) (v := (.bool (true))) (congrArg Value.bool c147) rfl) (wl_nil (then_loop ?_)))))
   exact jend true ⟨h.cn _, hs⟩
  ·
   refine wl_on rfl (congrArg Value.bool c147) (wl_ok (r_move (v := va) rfl) (wl_on rfl (congrArg Value.bool c147) ?_))
   obtain ⟨y148, e149, hs⟩ := o_bind hs
   refine w_call fnOk44 rfl rfl (source_Check_c N _ _ h.lt va a (h.srS 1 rfl) _ e149) ?_
   rintro _ w ⟨k150, rfl⟩
   refine ⟨_, rfl, ?_⟩
   replace h := h.grow k150
   refine wl_on rfl (congrArg Value.bool c147) (wl_ok (r_neq rfl rfl) (wl_ok (r_pick (b := false) (v := (.bool (decide ((y148 : Int) ≠ 0)))) (congrArg Value.bool c147) rfl) (wl_nil (then_loop ?_))))
   exact jend (decide ((y148 : Int) ≠ 0)) ⟨h.cn _, hs⟩
end Go.Proofs.Ytkjajililnbimaa
