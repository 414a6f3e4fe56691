import Derived.Test.YtkjajililnbimaaWalkA

set_option linter.unusedSimpArgs false
set_option linter.unusedVariables false
namespace Go.Proofs.Ytkjajililnbimaa
open Go Go.Proofs Go.WX
theorem ElemOf27 : ElemOf Try.prog 27 28 1 24 := ⟨Try.underlying27, elem_of (z := (.slice none 0 0)) (by kernel_rfl) rfl⟩
theorem ElemOf28 : ElemOf Try.prog 28 34 2 16 := ⟨Try.underlying28, elem_of (z := (.agg #[(.int .i64 (0)), (.int .i64 (0))])) (by kernel_rfl) rfl⟩
theorem Fld34x0 : FieldAt Try.prog 34 0 0 := ⟨_, _, 0, Try.underlying34, rfl, rfl, by kernel_rfl⟩
theorem Fld34x1 : FieldAt Try.prog 34 1 1 := ⟨_, _, 0, Try.underlying34, rfl, rfl, by kernel_rfl⟩
theorem fnOk15 : FnOk Try.prog 15 := ⟨_, Try.func15, by kernel_rfl, rfl⟩
theorem fnOk29 : FnOk Try.prog 29 := ⟨_, Try.func29, by kernel_rfl, rfl⟩
theorem fnOk31 : FnOk Try.prog 31 := ⟨_, Try.func31, by kernel_rfl, rfl⟩
theorem fnOk61 : FnOk Try.prog 61 := ⟨_, Try.func61, by kernel_rfl, rfl⟩
theorem fnOk62 : FnOk Try.prog 62 := ⟨_, Try.func62, by kernel_rfl, rfl⟩
theorem Many34 : Many Try.prog 34 [(.int .i64 (0)), (.int .i64 (0))] := ⟨⟨_, Try.underlying34, trivial⟩, by kernel_rfl⟩
theorem MapOf31 : MapOf Try.prog 31 (.bool false) := ⟨_, _, Try.underlying31, Try.underlying3, by kernel_rfl⟩
theorem One24 : One Try.prog 24 (.slice none 0 0) := ⟨⟨_, Try.underlying24, trivial⟩, by kernel_rfl, rfl⟩
theorem One28 : One Try.prog 28 (.slice none 0 0) := ⟨⟨_, Try.underlying28, trivial⟩, by kernel_rfl, rfl⟩
theorem One31 : One Try.prog 31 (.map none) := ⟨⟨_, Try.underlying31, trivial⟩, by kernel_rfl, rfl⟩
theorem SliceOf27 : SliceOf Try.prog 27 28 1 := ⟨Try.underlying27, by kernel_rfl⟩
theorem SliceOf28 : SliceOf Try.prog 28 34 2 := ⟨Try.underlying28, by kernel_rfl⟩
theorem Struct34 : Struct Try.prog 34 [(.int .i64 (0)), (.int .i64 (0))] [(0, 1), (1, 1)] := ⟨by kernel_rfl, _, Try.underlying34, by kernel_rfl⟩
theorem check_calls (M : List Nat) (w : World) (hL : LtM M w) (k m c : Int) : Calls Try.prog 29 #[.agg #[.int .i64 k, .int .i64 m], .int .i64 c] w
    (fun e w' => e = .returned (.int .i64 (cellCheck k m c)) ∧ Grow w w') := by
  refine calls_start (args := [(.agg #[(.int .i64 (k)), (.int .i64 (m))]), (.int .i64 (c))]) Try.func29 rfl Try.ntmps29 (Nat.le_of_ble_eq_true rfl) ?_
  have hG : Grow w w := Keep.refl _ _
  refine wc_seq ?_
  refine wc_region ?_
  refine wl_box (cs := [(.int .i64 (k)), (.int .i64 (m))]) rfl ?_
  intro w1 b2 eb2 kb2 Bb2
  have lb2 : w.heap.size ≤ b2 := by have := hG.size; omega
  replace hG := hG.grow kb2
  replace hL := hL.grow kb2
  replace hL := hL.cons Bb2.lt
  refine wl_ok (r_assign (v := (.int .i64 (0))) rfl) ?_
  refine wl_nil ?_
  refine then_normal ?_
  refine wc_seq ?_
  refine wc_seq ?_
  refine wc_region ?_
  refine wl_ok (r_fieldAddr (b := b2) (o := 0) Fld34x0 rfl) ?_
  refine wl_ok (r_loadB1 (b := b2) (o := 0) (v := (.int .i64 (k))) One3 rfl Bb2 rfl) ?_
  refine wl_nil ?_
  refine then_normal ?_
  refine wc_block ?_
  refine wc_seq ?_
  refine wc_region ?_
  refine wl_ok (r_eql (p := k) (q := 0) rfl rfl) ?_
  refine wl_ok (r_assign (v := (.bool (decide ((k : Int) = 0)))) rfl) ?_
  refine wl_nil ?_
  refine then_normal ?_
  refine wc_ifd (p := (k : Int) = 0) rfl (fun h3 => ?_) (fun h3 => ?_)
  · skip
    have qh3 : Value.bool (decide ((k : Int) = 0)) = Value.bool true := by rw [decide_eq_true h3]
    refine wc_seq ?_
    refine wc_region ?_
    refine wl_ok (r_fieldAddr (b := b2) (o := 0) Fld34x1 rfl) ?_
    refine wl_ok (r_loadB1 (b := b2) (o := 1) (v := (.int .i64 (m))) One3 rfl Bb2 rfl) ?_
    refine wl_ok (r_neq (p := m) (q := 0) rfl rfl) ?_
    refine wl_nil ?_
    refine then_normal ?_
    refine wc_ifd (p := (m : Int) ≠ 0) rfl (fun h4 => ?_) (fun h4 => ?_)
    · skip
      have qh4 : Value.bool (decide ((m : Int) ≠ 0)) = Value.bool true := by rw [decide_eq_true h4]
      refine wc_seq ?_
      refine wc_region ?_
      refine wl_ok (r_assign (v := (.int .i64 (4))) rfl) ?_
      refine wl_nil ?_
      refine then_normal ?_
      refine wc_ret ?_
      refine inBlock_ret ?_
      refine then_ret ?_
      refine fin1 (v := (.int .i64 (4))) Try.results29 rfl ?_
      exact ⟨ret_int (by simp only [cellCheck, eq_true h3, eq_false h4, if_true, if_false, ne_eq, not_true_eq_false, not_false_eq_true, eq_self]), hG⟩
    · skip
      have qh4 : Value.bool (decide ((m : Int) ≠ 0)) = Value.bool false := by rw [decide_eq_false h4]
      replace h4 := Decidable.not_not.1 h4
      refine wc_skip ?_
      refine inBlock_normal ?_
      refine then_normal ?_
      refine wc_seq ?_
      refine wc_region ?_
      refine wl_ok (r_assign (v := (.int .i64 (0))) rfl) ?_
      refine wl_nil ?_
      refine then_normal ?_
      refine wc_ret ?_
      refine fin1 (v := (.int .i64 (0))) Try.results29 rfl ?_
      exact ⟨ret_int (by simp only [cellCheck, eq_true h3, eq_true h4, if_true, if_false, ne_eq, not_true_eq_false, not_false_eq_true, eq_self]), hG⟩
  · skip
    have qh3 : Value.bool (decide ((k : Int) = 0)) = Value.bool false := by rw [decide_eq_false h3]
    refine wc_seq ?_
    refine wc_region ?_
    refine wl_ok (r_eql (p := k) (q := 1) rfl rfl) ?_
    refine wl_ok (r_assign (v := (.bool (decide ((k : Int) = 1)))) rfl) ?_
    refine wl_nil ?_
    refine then_normal ?_
    refine wc_ifd (p := (k : Int) = 1) rfl (fun h5 => ?_) (fun h5 => ?_)
    · skip
      have qh5 : Value.bool (decide ((k : Int) = 1)) = Value.bool true := by rw [decide_eq_true h5]
      refine wc_seq ?_
      refine wc_region ?_
      refine wl_ok (r_fieldAddr (b := b2) (o := 0) Fld34x1 rfl) ?_
      refine wl_ok (r_loadB1 (b := b2) (o := 1) (v := (.int .i64 (m))) One3 rfl Bb2 rfl) ?_
      refine wl_ok (r_lss (p := m) (q := -1000000000) rfl rfl) ?_
      refine wl_ok (r_move (v := (.bool (decide ((m : Int) < -1000000000)))) rfl) ?_
      refine (Decidable.em ((m : Int) < -1000000000)).elim (fun h6 => ?_) (fun h6 => ?_)
      · skip
        have qh6 : Value.bool (decide ((m : Int) < -1000000000)) = Value.bool true := by rw [decide_eq_true h6]
        refine wl_off (b' := true) rfl qh6 rfl ?_
        refine wl_off (b' := true) rfl qh6 rfl ?_
        refine wl_off (b' := true) rfl qh6 rfl ?_
        refine wl_ok (r_pick (b := true) (v := (.bool true)) qh6 rfl) ?_
        refine wl_nil ?_
        refine then_normal ?_
        refine wc_ift rfl ?_
        refine wc_seq ?_
        refine wc_region ?_
        refine wl_ok (r_assign (v := (.int .i64 (3))) rfl) ?_
        refine wl_nil ?_
        refine then_normal ?_
        refine wc_ret ?_
        refine inBlock_ret ?_
        refine then_ret ?_
        refine fin1 (v := (.int .i64 (3))) Try.results29 rfl ?_
        exact ⟨ret_int (by simp only [cellCheck, eq_false h3, eq_true h5, eq_true h6, if_true, if_false, ne_eq, not_true_eq_false, not_false_eq_true, eq_self]), hG⟩
      · skip
        have qh6 : Value.bool (decide ((m : Int) < -1000000000)) = Value.bool false := by rw [decide_eq_false h6]
        refine wl_on rfl qh6 ?_
        refine wl_ok (r_fieldAddr (b := b2) (o := 0) Fld34x1 rfl) ?_
        refine wl_on rfl qh6 ?_
        refine wl_ok (r_loadB1 (b := b2) (o := 1) (v := (.int .i64 (m))) One3 rfl Bb2 rfl) ?_
        refine wl_on rfl qh6 ?_
        refine wl_ok (r_gtr (p := m) (q := 1000000000) rfl rfl) ?_
        refine wl_ok (r_pick (b := false) (v := (.bool (decide ((1000000000 : Int) < m)))) qh6 rfl) ?_
        refine wl_nil ?_
        refine then_normal ?_
        refine wc_ifd (p := (1000000000 : Int) < m) rfl (fun h7 => ?_) (fun h7 => ?_)
        · skip
          have qh7 : Value.bool (decide ((1000000000 : Int) < m)) = Value.bool true := by rw [decide_eq_true h7]
          refine wc_seq ?_
          refine wc_region ?_
          refine wl_ok (r_assign (v := (.int .i64 (3))) rfl) ?_
          refine wl_nil ?_
          refine then_normal ?_
          refine wc_ret ?_
          refine inBlock_ret ?_
          refine then_ret ?_
          refine fin1 (v := (.int .i64 (3))) Try.results29 rfl ?_
          exact ⟨ret_int (by simp only [cellCheck, eq_false h3, eq_true h5, eq_false h6, eq_true h7, if_true, if_false, ne_eq, not_true_eq_false, not_false_eq_true, eq_self]), hG⟩
        · skip
          have qh7 : Value.bool (decide ((1000000000 : Int) < m)) = Value.bool false := by rw [decide_eq_false h7]
          refine wc_skip ?_
          refine inBlock_normal ?_
          refine then_normal ?_
          refine wc_seq ?_
          refine wc_region ?_
          refine wl_ok (r_assign (v := (.int .i64 (0))) rfl) ?_
          refine wl_nil ?_
          refine then_normal ?_
          refine wc_ret ?_
          refine fin1 (v := (.int .i64 (0))) Try.results29 rfl ?_
          exact ⟨ret_int (by simp only [cellCheck, eq_false h3, eq_true h5, eq_false h6, eq_false h7, if_true, if_false, ne_eq, not_true_eq_false, not_false_eq_true, eq_self]), hG⟩
    · skip
      have qh5 : Value.bool (decide ((k : Int) = 1)) = Value.bool false := by rw [decide_eq_false h5]
      refine wc_seq ?_
      refine wc_region ?_
      refine wl_ok (r_eql (p := k) (q := 2) rfl rfl) ?_
      refine wl_ok (r_assign (v := (.bool (decide ((k : Int) = 2)))) rfl) ?_
      refine wl_nil ?_
      refine then_normal ?_
      refine wc_ifd (p := (k : Int) = 2) rfl (fun h8 => ?_) (fun h8 => ?_)
      · skip
        have qh8 : Value.bool (decide ((k : Int) = 2)) = Value.bool true := by rw [decide_eq_true h8]
        refine wc_seq ?_
        refine wc_region ?_
        refine wl_ok (r_fieldAddr (b := b2) (o := 0) Fld34x1 rfl) ?_
        refine wl_ok (r_loadB1 (b := b2) (o := 1) (v := (.int .i64 (m))) One3 rfl Bb2 rfl) ?_
        refine wl_ok (r_lss (p := m) (q := 0) rfl rfl) ?_
        refine wl_ok (r_move (v := (.bool (decide ((m : Int) < 0)))) rfl) ?_
        refine (Decidable.em ((m : Int) < 0)).elim (fun h9 => ?_) (fun h9 => ?_)
        · skip
          have qh9 : Value.bool (decide ((m : Int) < 0)) = Value.bool true := by rw [decide_eq_true h9]
          refine wl_off (b' := true) rfl qh9 rfl ?_
          refine wl_off (b' := true) rfl qh9 rfl ?_
          refine wl_off (b' := true) rfl qh9 rfl ?_
          refine wl_off (b' := true) rfl qh9 rfl ?_
          refine wl_ok (r_pick (b := true) (v := (.bool true)) qh9 rfl) ?_
          refine wl_nil ?_
          refine then_normal ?_
          refine wc_ift rfl ?_
          refine wc_seq ?_
          refine wc_region ?_
          refine wl_ok (r_assign (v := (.int .i64 (5))) rfl) ?_
          refine wl_nil ?_
          refine then_normal ?_
          refine wc_ret ?_
          refine inBlock_ret ?_
          refine then_ret ?_
          refine fin1 (v := (.int .i64 (5))) Try.results29 rfl ?_
          exact ⟨ret_int (by simp only [cellCheck, eq_false h3, eq_false h5, eq_true h8, eq_true h9, if_true, if_false, ne_eq, not_true_eq_false, not_false_eq_true, eq_self]), hG⟩
        · skip
          have qh9 : Value.bool (decide ((m : Int) < 0)) = Value.bool false := by rw [decide_eq_false h9]
          refine wl_on rfl qh9 ?_
          refine wl_ok (r_fieldAddr (b := b2) (o := 0) Fld34x1 rfl) ?_
          refine wl_on rfl qh9 ?_
          refine wl_ok (r_loadB1 (b := b2) (o := 1) (v := (.int .i64 (m))) One3 rfl Bb2 rfl) ?_
          refine wl_on rfl qh9 ?_
          refine wl_ok (r_move (v := (.int .i64 (c))) rfl) ?_
          refine wl_on rfl qh9 ?_
          refine wl_ok (r_geq (p := m) (q := c) rfl rfl) ?_
          refine wl_ok (r_pick (b := false) (v := (.bool (decide ((c : Int) ≤ m)))) qh9 rfl) ?_
          refine wl_nil ?_
          refine then_normal ?_
          refine wc_ifd (p := (c : Int) ≤ m) rfl (fun h10 => ?_) (fun h10 => ?_)
          · skip
            have qh10 : Value.bool (decide ((c : Int) ≤ m)) = Value.bool true := by rw [decide_eq_true h10]
            refine wc_seq ?_
            refine wc_region ?_
            refine wl_ok (r_assign (v := (.int .i64 (5))) rfl) ?_
            refine wl_nil ?_
            refine then_normal ?_
            refine wc_ret ?_
            refine inBlock_ret ?_
            refine then_ret ?_
            refine fin1 (v := (.int .i64 (5))) Try.results29 rfl ?_
            exact ⟨ret_int (by simp only [cellCheck, eq_false h3, eq_false h5, eq_true h8, eq_false h9, eq_true h10, if_true, if_false, ne_eq, not_true_eq_false, not_false_eq_true, eq_self]), hG⟩
          · skip
            have qh10 : Value.bool (decide ((c : Int) ≤ m)) = Value.bool false := by rw [decide_eq_false h10]
            refine wc_skip ?_
            refine inBlock_normal ?_
            refine then_normal ?_
            refine wc_seq ?_
            refine wc_region ?_
            refine wl_ok (r_assign (v := (.int .i64 (0))) rfl) ?_
            refine wl_nil ?_
            refine then_normal ?_
            refine wc_ret ?_
            refine fin1 (v := (.int .i64 (0))) Try.results29 rfl ?_
            exact ⟨ret_int (by simp only [cellCheck, eq_false h3, eq_false h5, eq_true h8, eq_false h9, eq_false h10, if_true, if_false, ne_eq, not_true_eq_false, not_false_eq_true, eq_self]), hG⟩
      · skip
        have qh8 : Value.bool (decide ((k : Int) = 2)) = Value.bool false := by rw [decide_eq_false h8]
        refine wc_seq ?_
        refine wc_region ?_
        refine wl_ok (r_assign (v := (.int .i64 (4))) rfl) ?_
        refine wl_nil ?_
        refine then_normal ?_
        refine wc_ret ?_
        refine inBlock_ret ?_
        refine then_ret ?_
        refine fin1 (v := (.int .i64 (4))) Try.results29 rfl ?_
        exact ⟨ret_int (by simp only [cellCheck, eq_false h3, eq_false h5, eq_false h8, if_true, if_false, ne_eq, not_true_eq_false, not_false_eq_true, eq_self]), hG⟩

theorem checkAll_calls (M : List Nat) (w : World) (hL : LtM M w) (v : Value) (l : List (List Val)) (hv : rSliceRd (rSlice rVal) w M v l) : Calls Try.prog 31 #[v] w
    (fun e w' => e = .returned (.int .i64 (checkAll l)) ∧ Grow w w') := by
  refine calls_start (args := [v]) Try.func31 rfl Try.ntmps31 (Nat.le_of_ble_eq_true rfl) ?_
  have hG : Grow w w := Keep.refl _ _
  have hl := hv.len_le
  refine wc_seq ?_
  refine wc_region ?_
  refine wl_ok (r_assign (v := (.int .i64 (0))) rfl) ?_
  refine wl_nil ?_
  refine then_normal ?_
  refine wc_seq ?_
  refine wc_seq ?_
  refine wc_region ?_
  refine wl_ok (r_move (v := v) rfl) ?_
  refine wl_ok (r_len_rd (v := v) SliceOf27 rfl hv) ?_
  refine wl_ok (r_gtr (p := (l.length : Nat)) (q := 24) rfl rfl) ?_
  refine wl_nil ?_
  refine then_normal ?_
  refine wc_ifd (p := (24 : Int) < (l.length : Nat)) rfl (fun h11 => ?_) (fun h11 => ?_)
  · skip
    have qh11 : Value.bool (decide ((24 : Int) < (l.length : Nat))) = Value.bool true := by rw [decide_eq_true h11]
    refine wc_seq ?_
    refine wc_region ?_
    refine wl_ok (r_assign (v := (.int .i64 (2))) rfl) ?_
    refine wl_nil ?_
    refine then_normal ?_
    refine wc_ret ?_
    refine then_ret ?_
    refine fin1 (v := (.int .i64 (2))) Try.results31 rfl ?_
    exact ⟨ret_int (by simp only [checkAll, eq_true h11, if_true, if_false, ne_eq, not_true_eq_false, not_false_eq_true, eq_self]), hG⟩
  · skip
    have qh11 : Value.bool (decide ((24 : Int) < (l.length : Nat))) = Value.bool false := by rw [decide_eq_false h11]
    refine wc_skip ?_
    refine then_normal ?_
    refine wc_seq ?_
    refine wc_seq ?_
    refine wc_region ?_
    refine wl_ok (r_move (v := v) rfl) ?_
    refine wl_ok (r_len_rd (v := v) SliceOf27 rfl hv) ?_
    refine wl_ok (r_move (v := (.int .i64 (0))) rfl) ?_
    refine wl_nil ?_
    refine then_normal ?_
    refine wc_block ?_
    refine wc_loop (inl [2, 4, 6, 7, 13, 14, 15, 16, 17, 18, 19, 20, 21, 22, 23, 24, 25, 26, 27, 28, 29, 30, 31, 32, 33, 34, 35, 36, 37, 38, 39]) (σ := Nat) (fun k => [(13, (.int .i64 ((k : Nat))))]) (fun k wr => Grow w wr ∧ LtM M wr ∧ rSliceRd (rSlice rVal) wr M v l ∧ k ≤ l.length ∧ checkRows l.length (l.drop k) = checkRows l.length l) (fun k => l.length - k) (0) ⟨rfl, trivial⟩ ?_ ?_
    · exact ⟨hG, hL, hv, Nat.zero_le _, rfl⟩
    · rintro k w12 j13 ⟨G14, L15, s16, lk, tk⟩
      refine wc_seq ?_
      refine wc_region ?_
      refine wl_ok (r_lss (p := (k : Nat)) (q := (l.length : Nat)) rfl rfl) ?_
      refine wl_nil ?_
      refine then_normal ?_
      refine wc_seq ?_
      refine wc_ifd (p := ((k : Nat) : Int) < (l.length : Nat)) rfl (fun h17 => ?_) (fun h17 => ?_)
      · skip
        have qh17 : Value.bool (decide (((k : Nat) : Int) < (l.length : Nat))) = Value.bool true := by rw [decide_eq_true h17]
        refine wc_skip ?_
        refine then_normal ?_
        refine wc_seq ?_
        refine wc_block ?_
        refine wc_seq ?_
        refine wc_region ?_
        refine wl_indexN (k := k) (v := v) SliceOf27 rfl rfl s16 rfl (by omega) ?_
        intro p18 cs19 xp18 gp18 hp18 rp18
        obtain ⟨vp18, rfl, sp18⟩ := rp18
        have zp18 := sp18.len_le
        refine wl_ok (r_loadP1 (p := p18) (v := vp18) One28 rfl hp18) ?_
        refine wl_ok (r_assign (v := vp18) rfl) ?_
        refine wl_nil ?_
        refine then_normal ?_
        refine wc_seq ?_
        refine wc_seq ?_
        refine wc_region ?_
        refine wl_ok (r_move (v := vp18) rfl) ?_
        refine wl_ok (r_len_rd (v := vp18) SliceOf28 rfl sp18) ?_
        refine wl_ok (r_eql (p := (xp18.length : Nat)) (q := 0) rfl rfl) ?_
        refine wl_ok (r_move (v := (.bool (decide (((xp18.length : Nat) : Int) = 0)))) rfl) ?_
        refine (Decidable.em (((xp18.length : Nat) : Int) = 0)).elim (fun h20 => ?_) (fun h20 => ?_)
        · skip
          have qh20 : Value.bool (decide (((xp18.length : Nat) : Int) = 0)) = Value.bool true := by rw [decide_eq_true h20]
          refine wl_off (b' := true) rfl qh20 rfl ?_
          refine wl_off (b' := true) rfl qh20 rfl ?_
          refine wl_off (b' := true) rfl qh20 rfl ?_
          refine wl_ok (r_pick (b := true) (v := (.bool true)) qh20 rfl) ?_
          refine wl_nil ?_
          refine then_normal ?_
          refine wc_ift rfl ?_
          refine wc_seq ?_
          refine wc_region ?_
          refine wl_ok (r_assign (v := (.int .i64 (2))) rfl) ?_
          refine wl_nil ?_
          refine then_normal ?_
          refine wc_ret ?_
          refine then_ret ?_
          refine inBlock_ret ?_
          refine then_ret ?_
          refine then_ret ?_
          have t21 := tk
          rw [drop_some gp18] at t21
          simp only [checkRows, eq_false h11, eq_true h17, eq_true h20, if_true, if_false, ne_eq, not_true_eq_false, not_false_eq_true, eq_self] at t21
          refine inBlock_ret ?_
          refine then_ret ?_
          refine fin1 (v := (.int .i64 (2))) Try.results31 rfl ?_
          exact ⟨ret_int (by simp only [checkAll, eq_false h11, eq_true h17, eq_true h20, ← t21, if_true, if_false, ne_eq, not_true_eq_false, not_false_eq_true, eq_self]), G14⟩
        · skip
          have qh20 : Value.bool (decide (((xp18.length : Nat) : Int) = 0)) = Value.bool false := by rw [decide_eq_false h20]
          refine wl_on rfl qh20 ?_
          refine wl_ok (r_move (v := vp18) rfl) ?_
          refine wl_on rfl qh20 ?_
          refine wl_ok (r_len_rd (v := vp18) SliceOf28 rfl sp18) ?_
          refine wl_on rfl qh20 ?_
          refine wl_ok (r_gtr (p := (xp18.length : Nat)) (q := 4) rfl rfl) ?_
          refine wl_ok (r_pick (b := false) (v := (.bool (decide ((4 : Int) < (xp18.length : Nat))))) qh20 rfl) ?_
          refine wl_nil ?_
          refine then_normal ?_
          refine wc_ifd (p := (4 : Int) < (xp18.length : Nat)) rfl (fun h22 => ?_) (fun h22 => ?_)
          · skip
            have qh22 : Value.bool (decide ((4 : Int) < (xp18.length : Nat))) = Value.bool true := by rw [decide_eq_true h22]
            refine wc_seq ?_
            refine wc_region ?_
            refine wl_ok (r_assign (v := (.int .i64 (2))) rfl) ?_
            refine wl_nil ?_
            refine then_normal ?_
            refine wc_ret ?_
            refine then_ret ?_
            refine inBlock_ret ?_
            refine then_ret ?_
            refine then_ret ?_
            have t23 := tk
            rw [drop_some gp18] at t23
            simp only [checkRows, eq_false h11, eq_true h17, eq_false h20, eq_true h22, if_true, if_false, ne_eq, not_true_eq_false, not_false_eq_true, eq_self] at t23
            refine inBlock_ret ?_
            refine then_ret ?_
            refine fin1 (v := (.int .i64 (2))) Try.results31 rfl ?_
            exact ⟨ret_int (by simp only [checkAll, eq_false h11, eq_true h17, eq_false h20, eq_true h22, ← t23, if_true, if_false, ne_eq, not_true_eq_false, not_false_eq_true, eq_self]), G14⟩
          · skip
            have qh22 : Value.bool (decide ((4 : Int) < (xp18.length : Nat))) = Value.bool false := by rw [decide_eq_false h22]
            refine wc_skip ?_
            refine then_normal ?_
            refine wc_seq ?_
            refine wc_region ?_
            refine wl_ok (r_move (v := vp18) rfl) ?_
            refine wl_ok (r_len_rd (v := vp18) SliceOf28 rfl sp18) ?_
            refine wl_ok (r_move (v := (.int .i64 (0))) rfl) ?_
            refine wl_nil ?_
            refine then_normal ?_
            refine wc_block ?_
            refine wc_loop (inl [2, 6, 7, 27, 28, 29, 30, 31, 32, 33, 34, 35, 36, 37, 38]) (σ := Nat) (fun j => [(27, (.int .i64 ((j : Nat))))]) (fun j wr => Grow w wr ∧ LtM M wr ∧ rSliceRd (rSlice rVal) wr M v l ∧ rSliceRd rVal wr M vp18 xp18 ∧ j ≤ xp18.length ∧ checkVals l.length (xp18.drop j) = checkVals l.length xp18) (fun j => xp18.length - j) (0) ⟨rfl, trivial⟩ ?_ ?_
            · exact ⟨G14, L15, s16, sp18, Nat.zero_le _, rfl⟩
            · rintro j w24 j25 ⟨G26, L27, s28, s29, lj, tj⟩
              refine wc_seq ?_
              refine wc_region ?_
              refine wl_ok (r_lss (p := (j : Nat)) (q := (xp18.length : Nat)) rfl rfl) ?_
              refine wl_nil ?_
              refine then_normal ?_
              refine wc_seq ?_
              refine wc_ifd (p := ((j : Nat) : Int) < (xp18.length : Nat)) rfl (fun h30 => ?_) (fun h30 => ?_)
              · skip
                have qh30 : Value.bool (decide (((j : Nat) : Int) < (xp18.length : Nat))) = Value.bool true := by rw [decide_eq_true h30]
                refine wc_skip ?_
                refine then_normal ?_
                refine wc_seq ?_
                refine wc_block ?_
                refine wc_seq ?_
                refine wc_region ?_
                refine wl_indexN (k := j) (v := vp18) SliceOf28 rfl rfl s29 rfl (by omega) ?_
                intro p31 cs32 xp31 gp31 hp31 rp31
                obtain ⟨rfl, ip31xkind, ip31xn⟩ := rVal_open rp31
                refine wl_ok (r_loadPN (p := p31) (cs := [(.int .i64 (xp31.kind)), (.int .i64 (xp31.n))]) Many34 rfl hp31 rfl) ?_
                refine wl_allocN Many34 ?_
                intro w33 b34 eb34 kb34 Bb34
                have lb34 : w.heap.size ≤ b34 := by have := G26.size; omega
                replace s28 := s28.go (kb34.weaken (fun _ h => absurd h List.not_mem_nil)) (mem_new eb34)
                replace s29 := s29.go (kb34.weaken (fun _ h => absurd h List.not_mem_nil)) (mem_new eb34)
                replace G26 := G26.grow kb34
                replace L27 := L27.grow kb34
                replace L27 := L27.cons Bb34.lt
                refine wl_storeN (b := b34) (o := 0) (vs := [(.int .i64 (xp31.kind)), (.int .i64 (xp31.n))]) Many34 rfl Bb34 rfl rfl (by simp) (by simp [Value.oneCell']) ?_
                intro w35 k36 B37
                replace B37 : Blk w35 b34 [(.int .i64 (xp31.kind)), (.int .i64 (xp31.n))] := B37
                replace s28 := s28.go (Keep.one k36 (by simp)) (fun _ h _ => h)
                replace s29 := s29.go (Keep.one k36 (by simp)) (fun _ h _ => h)
                replace G26 := G26.stepF k36 (by simp; omega)
                replace L27 := L27.grow k36
                refine wl_nil ?_
                refine then_normal ?_
                refine wc_seq ?_
                refine wc_region ?_
                refine wl_ok (r_loadBN (b := b34) (o := 0) (vs := [(.int .i64 (xp31.kind)), (.int .i64 (xp31.n))]) Many34 rfl B37 rfl rfl) ?_
                refine wl_ok (r_move (v := v) rfl) ?_
                refine wl_ok (r_len_rd (v := v) SliceOf27 rfl s28) ?_
                refine wl_call (args := [(.agg #[(.int .i64 (xp31.kind)), (.int .i64 (xp31.n))]), (.int .i64 ((l.length : Nat)))]) fnOk29 rfl rfl (check_calls [] _ (fun x hx => absurd hx List.not_mem_nil) (xp31.kind) (xp31.n) ((l.length : Nat))) ?_
                rintro _ w38 ⟨rfl, k39⟩
                refine ⟨_, rfl, ?_⟩
                replace B37 := B37.grow k39
                replace s28 := s28.go (k39.weaken (fun _ h => absurd h List.not_mem_nil)) (fun _ h _ => h)
                replace s29 := s29.go (k39.weaken (fun _ h => absurd h List.not_mem_nil)) (fun _ h _ => h)
                replace G26 := G26.grow k39
                replace L27 := L27.grow k39
                refine wl_ok (r_assign (v := (.int .i64 (cellCheck (xp31.kind) (xp31.n) ((l.length : Nat))))) rfl) ?_
                refine wl_nil ?_
                refine then_normal ?_
                refine wc_seq ?_
                refine wc_region ?_
                refine wl_ok (r_move (v := (.int .i64 (cellCheck (xp31.kind) (xp31.n) ((l.length : Nat))))) rfl) ?_
                refine wl_ok (r_neq (p := cellCheck (xp31.kind) (xp31.n) ((l.length : Nat))) (q := 0) rfl rfl) ?_
                refine wl_nil ?_
                refine then_normal ?_
                refine wc_ifd (p := (cellCheck (xp31.kind) (xp31.n) ((l.length : Nat)) : Int) ≠ 0) rfl (fun h40 => ?_) (fun h40 => ?_)
                · skip
                  have qh40 : Value.bool (decide ((cellCheck (xp31.kind) (xp31.n) ((l.length : Nat)) : Int) ≠ 0)) = Value.bool true := by rw [decide_eq_true h40]
                  refine wc_seq ?_
                  refine wc_region ?_
                  refine wl_ok (r_move (v := (.int .i64 (cellCheck (xp31.kind) (xp31.n) ((l.length : Nat))))) rfl) ?_
                  refine wl_ok (r_assign (v := (.int .i64 (cellCheck (xp31.kind) (xp31.n) ((l.length : Nat))))) rfl) ?_
                  refine wl_nil ?_
                  refine then_normal ?_
                  refine wc_ret ?_
                  refine inBlock_ret ?_
                  refine then_ret ?_
                  refine then_ret ?_
                  have t41 := tj
                  rw [drop_some gp31] at t41
                  simp only [checkVals, eq_false h11, eq_true h17, eq_false h20, eq_false h22, eq_true h30, eq_false h40, if_true, if_false, ne_eq, not_true_eq_false, not_false_eq_true, eq_self] at t41
                  refine inBlock_ret ?_
                  refine inBlock_ret ?_
                  refine then_ret ?_
                  refine then_ret ?_
                  have t42 := tk
                  rw [drop_some gp18] at t42
                  simp only [checkRows, eq_false h11, eq_true h17, eq_false h20, eq_false h22, eq_true h30, eq_false h40, ← t41, if_true, if_false, ne_eq, not_true_eq_false, not_false_eq_true, eq_self] at t42
                  refine inBlock_ret ?_
                  refine then_ret ?_
                  refine fin1 (v := (.int .i64 (cellCheck (xp31.kind) (xp31.n) ((l.length : Nat))))) Try.results31 rfl ?_
                  exact ⟨ret_int (by simp only [checkAll, eq_false h11, eq_true h17, eq_false h20, eq_false h22, eq_true h30, eq_false h40, ← t41, ← t42, if_true, if_false, ne_eq, not_true_eq_false, not_false_eq_true, eq_self]), G26⟩
                · skip
                  have qh40 : Value.bool (decide ((cellCheck (xp31.kind) (xp31.n) ((l.length : Nat)) : Int) ≠ 0)) = Value.bool false := by rw [decide_eq_false h40]
                  replace h40 := Decidable.not_not.1 h40
                  refine wc_skip ?_
                  refine inBlock_normal ?_
                  refine then_normal ?_
                  refine wc_region ?_
                  refine wl_ok (r_add (p := (j : Nat)) (q := 1) rfl rfl (by omega)) ?_
                  refine wl_ok (r_move (v := (.int .i64 (((j : Nat) + 1)))) rfl) ?_
                  refine wl_nil ?_
                  refine then_loop ?_
                  have t43 := tj
                  rw [drop_some gp31] at t43
                  simp only [checkVals, eq_false h11, eq_true h17, eq_false h20, eq_false h22, eq_true h30, eq_true h40, if_true, if_false, ne_eq, not_true_eq_false, not_false_eq_true, eq_self] at t43
                  exact ⟨j + 1, _, rfl, (by repeat (first | (with_reducible exact Agr.hav _ _ _) | (with_reducible refine Agr.on ?_) | ((with_reducible refine Agr.hin ?_ ?_); rfl) | (with_reducible refine Agr.un ?_) | ((with_reducible refine Agr.os ?_ ?_); rfl) | ((with_reducible refine Agr.uc ?_ ?_); rfl))), ⟨rfl, trivial⟩, ⟨G26, (fun x hx => L27 x (List.mem_cons_of_mem _ hx)), (s28.go (Keep.refl _ _) (fun x hx _ => (List.mem_cons_of_mem _ hx))), (s29.go (Keep.refl _ _) (fun x hx _ => (List.mem_cons_of_mem _ hx))), by omega, t43⟩, (by omega)⟩
              · skip
                have qh30 : Value.bool (decide (((j : Nat) : Int) < (xp18.length : Nat))) = Value.bool false := by rw [decide_eq_false h30]
                refine wc_exit ?_
                refine then_exit ?_
                refine then_exit ?_
                have t44 := tj
                rw [drop_done h30] at t44
                simp only [checkVals, eq_false h11, eq_true h17, eq_false h20, eq_false h22, eq_false h30, if_true, if_false, ne_eq, not_true_eq_false, not_false_eq_true, eq_self] at t44
                refine inBlock_eq ?_
                refine inBlock_normal ?_
                refine then_normal ?_
                refine wc_region ?_
                refine wl_ok (r_add (p := (k : Nat)) (q := 1) rfl rfl (by omega)) ?_
                refine wl_ok (r_move (v := (.int .i64 (((k : Nat) + 1)))) rfl) ?_
                refine wl_nil ?_
                refine then_loop ?_
                have t45 := tk
                rw [drop_some gp18] at t45
                simp only [checkRows, eq_false h11, eq_true h17, eq_false h20, eq_false h22, eq_false h30, ← t44, if_true, if_false, ne_eq, not_true_eq_false, not_false_eq_true, eq_self] at t45
                exact ⟨k + 1, _, rfl, (by repeat (first | (with_reducible exact Agr.hav _ _ _) | (with_reducible refine Agr.on ?_) | ((with_reducible refine Agr.hin ?_ ?_); rfl) | (with_reducible refine Agr.un ?_) | ((with_reducible refine Agr.os ?_ ?_); rfl) | ((with_reducible refine Agr.uc ?_ ?_); rfl))), ⟨rfl, trivial⟩, ⟨G26, L27, s28, by omega, t45⟩, (by omega)⟩
      · skip
        have qh17 : Value.bool (decide (((k : Nat) : Int) < (l.length : Nat))) = Value.bool false := by rw [decide_eq_false h17]
        refine wc_exit ?_
        refine then_exit ?_
        refine then_exit ?_
        have t46 := tk
        rw [drop_done h17] at t46
        simp only [checkRows, eq_false h11, eq_false h17, if_true, if_false, ne_eq, not_true_eq_false, not_false_eq_true, eq_self] at t46
        refine inBlock_eq ?_
        refine then_normal ?_
        refine wc_seq ?_
        refine wc_region ?_
        refine wl_ok (r_assign (v := (.int .i64 (0))) rfl) ?_
        refine wl_nil ?_
        refine then_normal ?_
        refine wc_ret ?_
        refine fin1 (v := (.int .i64 (0))) Try.results31 rfl ?_
        exact ⟨ret_int (by simp only [checkAll, eq_false h11, eq_false h17, ← t46, if_true, if_false, ne_eq, not_true_eq_false, not_false_eq_true, eq_self]), G14⟩

theorem reach_calls (M : List Nat) (w : World) (hL : LtM M w) (v : Value) (l : List (List Val)) (u : Value) (from_ : List Val) (hv : rSliceRd (rSlice rVal) w M v l) (hu : rSliceRd rVal w M u from_) : Calls Try.prog 15 #[v, u] w
    (fun e w' => ∃ r, e = .returned (.tuple #[r, .int .i64 (reach l from_).2]) ∧ OwnSl rInt 3 w' M r (reach l from_).1 ∧ (∀ x ∈ ob r, w.heap.size ≤ x) ∧ Grow w w') := by
  refine calls_start (args := [v, u]) Try.func15 rfl Try.ntmps15 (Nat.le_of_ble_eq_true rfl) ?_
  have hG : Grow w w := Keep.refl _ _
  have hl := hv.len_le
  have hlu := hu.len_le
  refine wc_seq ?_
  refine wc_region ?_
  refine wl_ok (r_assign (v := (.slice none 0 0)) rfl) ?_
  refine wl_ok (r_assign (v := (.int .i64 (0))) rfl) ?_
  refine wl_nil ?_
  refine then_normal ?_
  refine wc_seq ?_
  refine wc_seq ?_
  refine wc_region ?_
  refine wl_ok (r_move (v := v) rfl) ?_
  refine wl_call (args := [v]) fnOk31 rfl rfl (checkAll_calls [] _ (fun x hx => absurd hx List.not_mem_nil) v l hv.bare) ?_
  rintro _ w47 ⟨rfl, k48⟩
  refine ⟨_, rfl, ?_⟩
  replace hv := hv.go (k48.weaken (fun _ h => absurd h List.not_mem_nil)) (fun _ h _ => h)
  replace hu := hu.go (k48.weaken (fun _ h => absurd h List.not_mem_nil)) (fun _ h _ => h)
  replace hG := hG.grow k48
  replace hL := hL.grow k48
  refine wl_ok (r_assign (v := (.int .i64 (checkAll l))) rfl) ?_
  refine wl_nil ?_
  refine then_normal ?_
  refine wc_seq ?_
  refine wc_region ?_
  refine wl_ok (r_move (v := (.int .i64 (checkAll l))) rfl) ?_
  refine wl_ok (r_neq (p := checkAll l) (q := 0) rfl rfl) ?_
  refine wl_nil ?_
  refine then_normal ?_
  refine wc_ifd (p := (checkAll l : Int) ≠ 0) rfl (fun h49 => ?_) (fun h49 => ?_)
  · skip
    have qh49 : Value.bool (decide ((checkAll l : Int) ≠ 0)) = Value.bool true := by rw [decide_eq_true h49]
    refine wc_seq ?_
    refine wc_region ?_
    refine wl_ok (r_move (v := (.int .i64 (checkAll l))) rfl) ?_
    refine wl_ok (r_assign (v := (.slice none 0 0)) rfl) ?_
    refine wl_ok (r_assign (v := (.int .i64 (checkAll l))) rfl) ?_
    refine wl_nil ?_
    refine then_normal ?_
    refine wc_ret ?_
    refine then_ret ?_
    refine fin2 (v1 := (.slice none 0 0)) (v2 := (.int .i64 (checkAll l))) Try.results15 rfl rfl ?_
    have fin : reach l from_ = ([], checkAll l) := by simp only [reach, eq_false h49, if_true, if_false, ne_eq, not_true_eq_false, not_false_eq_true, eq_self]
    exact ⟨_, by rw [fin], by rw [fin]; exact OwnSl.nil, fresh_nil, hG⟩
  · skip
    have qh49 : Value.bool (decide ((checkAll l : Int) ≠ 0)) = Value.bool false := by rw [decide_eq_false h49]
    replace h49 := Decidable.not_not.1 h49
    refine wc_skip ?_
    refine then_normal ?_
    refine wc_seq ?_
    refine wc_seq ?_
    refine wc_region ?_
    refine wl_ok (r_move (v := u) rfl) ?_
    refine wl_ok (r_len_rd (v := u) SliceOf28 rfl hu) ?_
    refine wl_ok (r_gtr (p := (from_.length : Nat)) (q := 400) rfl rfl) ?_
    refine wl_nil ?_
    refine then_normal ?_
    refine wc_ifd (p := (400 : Int) < (from_.length : Nat)) rfl (fun h50 => ?_) (fun h50 => ?_)
    · skip
      have qh50 : Value.bool (decide ((400 : Int) < (from_.length : Nat))) = Value.bool true := by rw [decide_eq_true h50]
      refine wc_seq ?_
      refine wc_region ?_
      refine wl_ok (r_assign (v := (.slice none 0 0)) rfl) ?_
      refine wl_ok (r_assign (v := (.int .i64 (2))) rfl) ?_
      refine wl_nil ?_
      refine then_normal ?_
      refine wc_ret ?_
      refine then_ret ?_
      refine fin2 (v1 := (.slice none 0 0)) (v2 := (.int .i64 (2))) Try.results15 rfl rfl ?_
      have fin : reach l from_ = ([], 2) := by simp only [reach, eq_true h49, eq_true h50, if_true, if_false, ne_eq, not_true_eq_false, not_false_eq_true, eq_self]
      exact ⟨_, by rw [fin], by rw [fin]; exact OwnSl.nil, fresh_nil, hG⟩
    · skip
      have qh50 : Value.bool (decide ((400 : Int) < (from_.length : Nat))) = Value.bool false := by rw [decide_eq_false h50]
      refine wc_skip ?_
      refine then_normal ?_
      refine wc_seq ?_
      refine wc_seq ?_
      refine wc_region ?_
      refine wl_ok (r_move (v := u) rfl) ?_
      refine wl_ok (r_len_rd (v := u) SliceOf28 rfl hu) ?_
      refine wl_ok (r_move (v := (.int .i64 (0))) rfl) ?_
      refine wl_nil ?_
      refine then_normal ?_
      refine wc_block ?_
      refine wc_loop (inl [4, 5, 8, 9, 28, 29, 30, 31, 32, 33, 34, 35, 36, 37, 38, 39]) (σ := Nat) (fun k => [(28, (.int .i64 ((k : Nat))))]) (fun k wr => Grow w wr ∧ LtM M wr ∧ rSliceRd (rSlice rVal) wr M v l ∧ rSliceRd rVal wr M u from_ ∧ k ≤ from_.length ∧ checkVals l.length (from_.drop k) = checkVals l.length from_) (fun k => from_.length - k) (0) ⟨rfl, trivial⟩ ?_ ?_
      · exact ⟨hG, hL, hv, hu, Nat.zero_le _, rfl⟩
      · rintro k w51 j52 ⟨G53, L54, s55, s56, lk, tk⟩
        refine wc_seq ?_
        refine wc_region ?_
        refine wl_ok (r_lss (p := (k : Nat)) (q := (from_.length : Nat)) rfl rfl) ?_
        refine wl_nil ?_
        refine then_normal ?_
        refine wc_seq ?_
        refine wc_ifd (p := ((k : Nat) : Int) < (from_.length : Nat)) rfl (fun h57 => ?_) (fun h57 => ?_)
        · skip
          have qh57 : Value.bool (decide (((k : Nat) : Int) < (from_.length : Nat))) = Value.bool true := by rw [decide_eq_true h57]
          refine wc_skip ?_
          refine then_normal ?_
          refine wc_seq ?_
          refine wc_block ?_
          refine wc_seq ?_
          refine wc_region ?_
          refine wl_indexN (k := k) (v := u) SliceOf28 rfl rfl s56 rfl (by omega) ?_
          intro p58 cs59 xp58 gp58 hp58 rp58
          obtain ⟨rfl, ip58xkind, ip58xn⟩ := rVal_open rp58
          refine wl_ok (r_loadPN (p := p58) (cs := [(.int .i64 (xp58.kind)), (.int .i64 (xp58.n))]) Many34 rfl hp58 rfl) ?_
          refine wl_allocN Many34 ?_
          intro w60 b61 eb61 kb61 Bb61
          have lb61 : w.heap.size ≤ b61 := by have := G53.size; omega
          replace s55 := s55.go (kb61.weaken (fun _ h => absurd h List.not_mem_nil)) (mem_new eb61)
          replace s56 := s56.go (kb61.weaken (fun _ h => absurd h List.not_mem_nil)) (mem_new eb61)
          replace G53 := G53.grow kb61
          replace L54 := L54.grow kb61
          replace L54 := L54.cons Bb61.lt
          refine wl_storeN (b := b61) (o := 0) (vs := [(.int .i64 (xp58.kind)), (.int .i64 (xp58.n))]) Many34 rfl Bb61 rfl rfl (by simp) (by simp [Value.oneCell']) ?_
          intro w62 k63 B64
          replace B64 : Blk w62 b61 [(.int .i64 (xp58.kind)), (.int .i64 (xp58.n))] := B64
          replace s55 := s55.go (Keep.one k63 (by simp)) (fun _ h _ => h)
          replace s56 := s56.go (Keep.one k63 (by simp)) (fun _ h _ => h)
          replace G53 := G53.stepF k63 (by simp; omega)
          replace L54 := L54.grow k63
          refine wl_nil ?_
          refine then_normal ?_
          refine wc_seq ?_
          refine wc_region ?_
          refine wl_ok (r_loadBN (b := b61) (o := 0) (vs := [(.int .i64 (xp58.kind)), (.int .i64 (xp58.n))]) Many34 rfl B64 rfl rfl) ?_
          refine wl_ok (r_move (v := v) rfl) ?_
          refine wl_ok (r_len_rd (v := v) SliceOf27 rfl s55) ?_
          refine wl_call (args := [(.agg #[(.int .i64 (xp58.kind)), (.int .i64 (xp58.n))]), (.int .i64 ((l.length : Nat)))]) fnOk29 rfl rfl (check_calls [] _ (fun x hx => absurd hx List.not_mem_nil) (xp58.kind) (xp58.n) ((l.length : Nat))) ?_
          rintro _ w65 ⟨rfl, k66⟩
          refine ⟨_, rfl, ?_⟩
          replace B64 := B64.grow k66
          replace s55 := s55.go (k66.weaken (fun _ h => absurd h List.not_mem_nil)) (fun _ h _ => h)
          replace s56 := s56.go (k66.weaken (fun _ h => absurd h List.not_mem_nil)) (fun _ h _ => h)
          replace G53 := G53.grow k66
          replace L54 := L54.grow k66
          refine wl_ok (r_assign (v := (.int .i64 (cellCheck (xp58.kind) (xp58.n) ((l.length : Nat))))) rfl) ?_
          refine wl_nil ?_
          refine then_normal ?_
          refine wc_seq ?_
          refine wc_region ?_
          refine wl_ok (r_move (v := (.int .i64 (cellCheck (xp58.kind) (xp58.n) ((l.length : Nat))))) rfl) ?_
          refine wl_ok (r_neq (p := cellCheck (xp58.kind) (xp58.n) ((l.length : Nat))) (q := 0) rfl rfl) ?_
          refine wl_nil ?_
          refine then_normal ?_
          refine wc_ifd (p := (cellCheck (xp58.kind) (xp58.n) ((l.length : Nat)) : Int) ≠ 0) rfl (fun h67 => ?_) (fun h67 => ?_)
          · skip
            have qh67 : Value.bool (decide ((cellCheck (xp58.kind) (xp58.n) ((l.length : Nat)) : Int) ≠ 0)) = Value.bool true := by rw [decide_eq_true h67]
            refine wc_seq ?_
            refine wc_region ?_
            refine wl_ok (r_move (v := (.int .i64 (cellCheck (xp58.kind) (xp58.n) ((l.length : Nat))))) rfl) ?_
            refine wl_ok (r_assign (v := (.slice none 0 0)) rfl) ?_
            refine wl_ok (r_assign (v := (.int .i64 (cellCheck (xp58.kind) (xp58.n) ((l.length : Nat))))) rfl) ?_
            refine wl_nil ?_
            refine then_normal ?_
            refine wc_ret ?_
            refine inBlock_ret ?_
            refine then_ret ?_
            refine then_ret ?_
            have t68 := tk
            rw [drop_some gp58] at t68
            simp only [checkVals, eq_true h49, eq_false h50, eq_true h57, eq_false h67, if_true, if_false, ne_eq, not_true_eq_false, not_false_eq_true, eq_self] at t68
            refine inBlock_ret ?_
            refine then_ret ?_
            refine fin2 (v1 := (.slice none 0 0)) (v2 := (.int .i64 (cellCheck (xp58.kind) (xp58.n) ((l.length : Nat))))) Try.results15 rfl rfl ?_
            have fin : reach l from_ = ([], cellCheck (xp58.kind) (xp58.n) ((l.length : Nat))) := by simp only [reach, eq_true h49, eq_false h50, eq_true h57, eq_false h67, ← t68, if_true, if_false, ne_eq, not_true_eq_false, not_false_eq_true, eq_self]
            exact ⟨_, by rw [fin], by rw [fin]; exact OwnSl.nil, fresh_nil, G53⟩
          · skip
            have qh67 : Value.bool (decide ((cellCheck (xp58.kind) (xp58.n) ((l.length : Nat)) : Int) ≠ 0)) = Value.bool false := by rw [decide_eq_false h67]
            replace h67 := Decidable.not_not.1 h67
            refine wc_skip ?_
            refine inBlock_normal ?_
            refine then_normal ?_
            refine wc_region ?_
            refine wl_ok (r_add (p := (k : Nat)) (q := 1) rfl rfl (by omega)) ?_
            refine wl_ok (r_move (v := (.int .i64 (((k : Nat) + 1)))) rfl) ?_
            refine wl_nil ?_
            refine then_loop ?_
            have t69 := tk
            rw [drop_some gp58] at t69
            simp only [checkVals, eq_true h49, eq_false h50, eq_true h57, eq_true h67, if_true, if_false, ne_eq, not_true_eq_false, not_false_eq_true, eq_self] at t69
            exact ⟨k + 1, _, rfl, (by repeat (first | (with_reducible exact Agr.hav _ _ _) | (with_reducible refine Agr.on ?_) | ((with_reducible refine Agr.hin ?_ ?_); rfl) | (with_reducible refine Agr.un ?_) | ((with_reducible refine Agr.os ?_ ?_); rfl) | ((with_reducible refine Agr.uc ?_ ?_); rfl))), ⟨rfl, trivial⟩, ⟨G53, (fun x hx => L54 x (List.mem_cons_of_mem _ hx)), (s55.go (Keep.refl _ _) (fun x hx _ => (List.mem_cons_of_mem _ hx))), (s56.go (Keep.refl _ _) (fun x hx _ => (List.mem_cons_of_mem _ hx))), by omega, t69⟩, (by omega)⟩
        · skip
          have qh57 : Value.bool (decide (((k : Nat) : Int) < (from_.length : Nat))) = Value.bool false := by rw [decide_eq_false h57]
          refine wc_exit ?_
          refine then_exit ?_
          refine then_exit ?_
          have t70 := tk
          rw [drop_done h57] at t70
          simp only [checkVals, eq_true h49, eq_false h50, eq_false h57, if_true, if_false, ne_eq, not_true_eq_false, not_false_eq_true, eq_self] at t70
          refine inBlock_eq ?_
          refine then_normal ?_
          refine wc_seq ?_
          refine wc_region ?_
          refine wl_makeMap ?_
          intro w71 b72 eb72 kb72 Bb72
          have lb72 : w.heap.size ≤ b72 := by have := G53.size; omega
          replace s55 := s55.go (kb72.weaken (fun _ h => absurd h List.not_mem_nil)) (mem_new eb72)
          replace s56 := s56.go (kb72.weaken (fun _ h => absurd h List.not_mem_nil)) (mem_new eb72)
          replace G53 := G53.grow kb72
          replace L54 := L54.grow kb72
          replace L54 := L54.cons Bb72.lt
          refine wl_alloc1 One31 ?_
          intro w73 b74 eb74 kb74 Bb74
          have lb74 : w.heap.size ≤ b74 := by have := G53.size; omega
          have nb74xb72 : b72 < b74 := by have := Bb72.lt; omega
          replace Bb72 := Bb72.grow kb74
          replace s55 := s55.go (kb74.weaken (fun _ h => absurd h List.not_mem_nil)) (mem_new eb74)
          replace s56 := s56.go (kb74.weaken (fun _ h => absurd h List.not_mem_nil)) (mem_new eb74)
          replace G53 := G53.grow kb74
          replace L54 := L54.grow kb74
          replace L54 := L54.cons Bb74.lt
          refine wl_store1 (b := b74) (o := 0) (v := (.map (some b72))) One31 rfl Bb74 rfl (by simp) rfl ?_
          intro w75 k76 B77
          replace B77 : Blk w75 b74 [(.map (some b72))] := B77
          replace Bb72 := Bb72.keep k76 (by simp; omega)
          replace s55 := s55.go (Keep.one k76 (by simp)) (fun _ h _ => h)
          replace s56 := s56.go (Keep.one k76 (by simp)) (fun _ h _ => h)
          replace G53 := G53.stepF k76 (by simp; omega)
          replace L54 := L54.grow k76
          refine wl_nil ?_
          refine then_normal ?_
          refine wc_seq ?_
          refine wc_region ?_
          refine wl_alloc1 One24 ?_
          intro w78 b79 eb79 kb79 Bb79
          have lb79 : w.heap.size ≤ b79 := by have := G53.size; omega
          have nb79xb74 : b74 < b79 := by have := B77.lt; omega
          have nb79xb72 : b72 < b79 := by have := Bb72.lt; omega
          replace B77 := B77.grow kb79
          replace Bb72 := Bb72.grow kb79
          replace s55 := s55.go (kb79.weaken (fun _ h => absurd h List.not_mem_nil)) (mem_new eb79)
          replace s56 := s56.go (kb79.weaken (fun _ h => absurd h List.not_mem_nil)) (mem_new eb79)
          replace G53 := G53.grow kb79
          replace L54 := L54.grow kb79
          replace L54 := L54.cons Bb79.lt
          refine wl_nil ?_
          refine then_normal ?_
          refine wc_seq ?_
          refine wc_region ?_
          refine wl_ok (r_makeFunc (c1 := []) (c2 := [(.pointer (some ⟨b74, 0, none⟩)), (.pointer (some ⟨b79, 0, none⟩))]) rfl rfl) ?_
          refine wl_ok (r_assign (v := (.func (.func 61) #[] #[(.pointer (some ⟨b74, 0, none⟩)), (.pointer (some ⟨b79, 0, none⟩))])) rfl) ?_
          refine wl_nil ?_
          refine then_normal ?_
          refine wc_seq ?_
          refine wc_seq ?_
          refine wc_region ?_
          refine wl_ok (r_move (v := u) rfl) ?_
          refine wl_ok (r_len_rd (v := u) SliceOf28 rfl s56) ?_
          refine wl_ok (r_move (v := (.int .i64 (0))) rfl) ?_
          refine wl_nil ?_
          refine then_normal ?_
          refine wc_block ?_
          have hval := t70.symm
          have hl24 := checkAll_len h49
          refine wc_loop (inl [14, 44, 45, 46, 47, 48, 49, 50, 51]) (σ := Nat × List Int × Value) (fun (k2, o, v1) => [(44, (.int .i64 ((k2 : Nat))))]) (fun (k2, o, v1) wr => Grow w wr ∧ LtM (ob v1 ++ (b79 :: (b74 :: (b72 :: M)))) wr ∧ rSliceRd (rSlice rVal) wr (ob v1 ++ (b79 :: (b74 :: (b72 :: M)))) v l ∧ rSliceRd rVal wr (ob v1 ++ (b79 :: (b74 :: (b72 :: M)))) u from_ ∧ Blk wr b74 [(.map (some b72))] ∧ Blk wr b79 [v1] ∧ MapIs wr b72 (setE o) ∧ OwnSl rInt 3 wr (b79 :: (b74 :: (b72 :: M))) v1 o ∧ (∀ x ∈ ob v1, w.heap.size ≤ x) ∧ k2 ≤ from_.length ∧ meetAll o (from_.drop k2) = meetAll [] from_ ∧ GoodR l.length o) (fun (k2, o, v1) => from_.length - k2) ((0, [], .slice none 0 0)) ⟨rfl, trivial⟩ ?_ ?_
          · exact ⟨G53, L54, s55, s56, B77, Bb79, Bb72, OwnSl.nil, fresh_nil, Nat.zero_le _, rfl, good_nil⟩
          · rintro ⟨k2, o, v1⟩ w80 j81 ⟨G82, L83, s84, s85, B86, B87, B88, o89, z90, lk, tk, hgood⟩
            have hle := hgood.le
            refine wc_seq ?_
            refine wc_region ?_
            refine wl_ok (r_lss (p := (k2 : Nat)) (q := (from_.length : Nat)) rfl rfl) ?_
            refine wl_nil ?_
            refine then_normal ?_
            refine wc_seq ?_
            refine wc_ifd (p := ((k2 : Nat) : Int) < (from_.length : Nat)) rfl (fun h91 => ?_) (fun h91 => ?_)
            · skip
              have qh91 : Value.bool (decide (((k2 : Nat) : Int) < (from_.length : Nat))) = Value.bool true := by rw [decide_eq_true h91]
              refine wc_skip ?_
              refine then_normal ?_
              refine wc_seq ?_
              refine wc_block ?_
              refine wc_seq ?_
              refine wc_region ?_
              refine wl_indexN (k := k2) (v := u) SliceOf28 rfl rfl s85 rfl (by omega) ?_
              intro p92 cs93 xp92 gp92 hp92 rp92
              obtain ⟨rfl, ip92xkind, ip92xn⟩ := rVal_open rp92
              refine wl_ok (r_loadPN (p := p92) (cs := [(.int .i64 (xp92.kind)), (.int .i64 (xp92.n))]) Many34 rfl hp92 rfl) ?_
              refine wl_allocN Many34 ?_
              intro w94 b95 eb95 kb95 Bb95
              have lb95 : w.heap.size ≤ b95 := by have := G82.size; omega
              have nb95xb74 : b74 < b95 := by have := B86.lt; omega
              have nb95xb79 : b79 < b95 := by have := B87.lt; omega
              have nb95xb72 : b72 < b95 := by have := B88.lt; omega
              replace B86 := B86.grow kb95
              replace B87 := B87.grow kb95
              replace B88 := B88.grow kb95
              replace s84 := s84.go (kb95.weaken (fun _ h => absurd h List.not_mem_nil)) (mem_new eb95)
              replace s85 := s85.go (kb95.weaken (fun _ h => absurd h List.not_mem_nil)) (mem_new eb95)
              replace o89 := o89.go (kb95.weaken (fun _ h => absurd h List.not_mem_nil)) (mem_new eb95)
              replace G82 := G82.grow kb95
              replace L83 := L83.grow kb95
              replace L83 := L83.cons Bb95.lt
              refine wl_storeN (b := b95) (o := 0) (vs := [(.int .i64 (xp92.kind)), (.int .i64 (xp92.n))]) Many34 rfl Bb95 rfl rfl (by simp) (by simp [Value.oneCell']) ?_
              intro w96 k97 B98
              replace B98 : Blk w96 b95 [(.int .i64 (xp92.kind)), (.int .i64 (xp92.n))] := B98
              replace B86 := B86.keep k97 (by simp; omega)
              replace B87 := B87.keep k97 (by simp; omega)
              replace B88 := B88.keep k97 (by simp; omega)
              replace s84 := s84.go (Keep.one k97 (by simp)) (fun _ h _ => h)
              replace s85 := s85.go (Keep.one k97 (by simp)) (fun _ h _ => h)
              replace o89 := o89.go (Keep.one k97 (by simp)) (fun _ h _ => h)
              replace G82 := G82.stepF k97 (by simp; omega)
              replace L83 := L83.grow k97
              refine wl_nil ?_
              refine then_normal ?_
              refine wc_region ?_
              refine wl_ok (r_move (v := (.func (.func 61) #[] #[(.pointer (some ⟨b74, 0, none⟩)), (.pointer (some ⟨b79, 0, none⟩))])) rfl) ?_
              refine wl_ok (r_loadBN (b := b95) (o := 0) (vs := [(.int .i64 (xp92.kind)), (.int .i64 (xp92.n))]) Many34 rfl B98 rfl rfl) ?_
              refine wl_callIn (args := [(.agg #[(.int .i64 (xp92.kind)), (.int .i64 (xp92.n))]), (.pointer (some ⟨b74, 0, none⟩)), (.pointer (some ⟨b79, 0, none⟩))]) fnOk61 rfl rfl ?_
              refine calls_start (args := [(.agg #[(.int .i64 (xp92.kind)), (.int .i64 (xp92.n))]), (.pointer (some ⟨b74, 0, none⟩)), (.pointer (some ⟨b79, 0, none⟩))]) Try.func61 rfl Try.ntmps61 (Nat.le_of_ble_eq_true rfl) ?_
              refine wc_seq ?_
              refine wc_region ?_
              refine wl_box (cs := [(.int .i64 (xp92.kind)), (.int .i64 (xp92.n))]) rfl ?_
              intro w99 b100 eb100 kb100 Bb100
              have lb100 : w.heap.size ≤ b100 := by have := G82.size; omega
              have nb100xb74 : b74 < b100 := by have := B86.lt; omega
              have nb100xb79 : b79 < b100 := by have := B87.lt; omega
              have nb100xb95 : b95 < b100 := by have := B98.lt; omega
              have nb100xb72 : b72 < b100 := by have := B88.lt; omega
              replace B86 := B86.grow kb100
              replace B87 := B87.grow kb100
              replace B98 := B98.grow kb100
              replace B88 := B88.grow kb100
              replace s84 := s84.go (kb100.weaken (fun _ h => absurd h List.not_mem_nil)) (mem_new eb100)
              replace s85 := s85.go (kb100.weaken (fun _ h => absurd h List.not_mem_nil)) (mem_new eb100)
              replace o89 := o89.go (kb100.weaken (fun _ h => absurd h List.not_mem_nil)) (mem_new eb100)
              replace G82 := G82.grow kb100
              replace L83 := L83.grow kb100
              replace L83 := L83.cons Bb100.lt
              refine wl_nil ?_
              refine then_normal ?_
              refine wc_seq ?_
              refine wc_region ?_
              refine wl_ok (r_fieldAddr (b := b100) (o := 0) Fld34x0 rfl) ?_
              refine wl_ok (r_loadB1 (b := b100) (o := 0) (v := (.int .i64 (xp92.kind))) One3 rfl Bb100 rfl) ?_
              refine wl_ok (r_eql (p := xp92.kind) (q := 2) rfl rfl) ?_
              refine wl_ok (r_move (v := (.bool (decide ((xp92.kind : Int) = 2)))) rfl) ?_
              refine (Decidable.em ((xp92.kind : Int) = 2)).elim (fun h101 => ?_) (fun h101 => ?_)
              · skip
                have qh101 : Value.bool (decide ((xp92.kind : Int) = 2)) = Value.bool true := by rw [decide_eq_true h101]
                refine wl_on rfl qh101 ?_
                refine wl_ok (r_loadB1 (b := b74) (o := 0) (v := (.map (some b72))) One31 rfl B86 rfl) ?_
                refine wl_on rfl qh101 ?_
                refine wl_ok (r_fieldAddr (b := b100) (o := 0) Fld34x1 rfl) ?_
                refine wl_on rfl qh101 ?_
                refine wl_ok (r_loadB1 (b := b100) (o := 1) (v := (.int .i64 (xp92.n))) One3 rfl Bb100 rfl) ?_
                refine wl_on rfl qh101 ?_
                refine wl_lookupS (b := b72) (k := xp92.n) (l := o) MapOf31 rfl rfl B88 ?_
                refine wl_on rfl qh101 ?_
                refine wl_ok (r_notd (p := (xp92.n : Int) ∈ o) rfl) ?_
                refine wl_ok (r_pick (b := true) (v := (.bool (decide (¬ ((xp92.n : Int) ∈ o))))) qh101 rfl) ?_
                refine wl_nil ?_
                refine then_normal ?_
                refine wc_ifd (p := ¬ ((xp92.n : Int) ∈ o)) rfl (fun h102 => ?_) (fun h102 => ?_)
                · skip
                  have qh102 : Value.bool (decide (¬ ((xp92.n : Int) ∈ o))) = Value.bool true := by rw [decide_eq_true h102]
                  have h102i := h102
                  have qh102i : Value.bool (decide ((xp92.n : Int) ∈ o)) = Value.bool false := by rw [decide_eq_false h102i]
                  refine wc_seq ?_
                  refine wc_region ?_
                  refine wl_ok (r_loadB1 (b := b74) (o := 0) (v := (.map (some b72))) One31 rfl B86 rfl) ?_
                  refine wl_ok (r_fieldAddr (b := b100) (o := 0) Fld34x1 rfl) ?_
                  refine wl_ok (r_loadB1 (b := b100) (o := 1) (v := (.int .i64 (xp92.n))) One3 rfl Bb100 rfl) ?_
                  refine wl_mapUpdateS (b := b72) (k := xp92.n) (l := o) MapOf31 rfl rfl rfl B88 ?_
                  intro w103 k104 B105
                  rw [ins_new (of_decide_eq_false (Value.bool.inj qh102i))] at B105
                  replace B86 := B86.keep k104 (by simp; omega)
                  replace B87 := B87.keep k104 (by simp; omega)
                  replace B98 := B98.keep k104 (by simp; omega)
                  replace Bb100 := Bb100.keep k104 (by simp; omega)
                  replace s84 := s84.go (Keep.one k104 (by simp)) (fun _ h _ => h)
                  replace s85 := s85.go (Keep.one k104 (by simp)) (fun _ h _ => h)
                  replace o89 := o89.go (Keep.one k104 (by simp)) (fun _ h _ => h)
                  replace G82 := G82.stepF k104 (by simp; omega)
                  replace L83 := L83.grow k104
                  refine wl_nil ?_
                  refine then_normal ?_
                  refine wc_region ?_
                  refine wl_ok (r_loadB1 (b := b79) (o := 0) (v := v1) One24 rfl B87 rfl) ?_
                  refine wl_ok (r_fieldAddr (b := b100) (o := 0) Fld34x1 rfl) ?_
                  refine wl_ok (r_loadB1 (b := b100) (o := 1) (v := (.int .i64 (xp92.n))) One3 rfl Bb100 rfl) ?_
                  refine wl_buildSlice (R := rInt) (M := (b100 :: (b95 :: (ob v1 ++ (b79 :: (b74 :: (b72 :: M))))))) (vs := [(.int .i64 (xp92.n))]) (xs := [xp92.n]) ElemOf24 rfl rfl rfl ⟨⟨rfl, (by omega)⟩, trivial⟩ L83 (by decide) ?_
                  intro w106 v107 k108 ov107 uv107
                  have z109 : ∀ x ∈ ob v107, w.heap.size ≤ x := fresh_new G82.size rfl uv107
                  replace B86 := B86.grow k108
                  replace B87 := B87.grow k108
                  replace B98 := B98.grow k108
                  replace Bb100 := Bb100.grow k108
                  replace B105 := B105.grow k108
                  replace s84 := s84.go (k108.weaken (fun _ h => absurd h List.not_mem_nil)) (fun _ h _ => h)
                  replace s85 := s85.go (k108.weaken (fun _ h => absurd h List.not_mem_nil)) (fun _ h _ => h)
                  replace o89 := o89.go (k108.weaken (fun _ h => absurd h List.not_mem_nil)) (fun _ h _ => h)
                  replace G82 := G82.grow k108
                  replace L83 := L83.grow k108
                  refine wl_append (R := rInt) (v := v1) (u := v107) (l := o) (m := ([xp92.n] : List (Int))) (M := (b100 :: (b95 :: (b79 :: (b74 :: (b72 :: M)))))) ElemOf24 rfl rfl o89 rfl (ov107.rd.go (Keep.refl _ _) (fun x hx _ => mem_rot [b100, b95] hx)) (fun x hx => L83 x (mem_ins (ob v1) [b100, b95] hx)) (by first | omega | (simp; omega)) (by first | omega | (simp; omega)) ?_
                  intro v110 w111 ov110 k112 uv110
                  have z113 : ∀ x ∈ ob v110, w.heap.size ≤ x := fresh_app z90 G82.size uv110
                  replace B86 := B86.keep k112 (fun hb => o89.apart _ hb (by simp))
                  replace B87 := B87.keep k112 (fun hb => o89.apart _ hb (by simp))
                  replace B98 := B98.keep k112 (fun hb => o89.apart _ hb (by simp))
                  replace Bb100 := Bb100.keep k112 (fun hb => o89.apart _ hb (by simp))
                  replace B105 := B105.keep k112 (fun hb => o89.apart _ hb (by simp))
                  replace s84 := s84.go (k112.weaken (fun x hx _ => by simp [hx])) (mem_mid [b100, b95] uv110)
                  replace s85 := s85.go (k112.weaken (fun x hx _ => by simp [hx])) (mem_mid [b100, b95] uv110)
                  replace ov107 := ov107.go (k112.weaken (fun x hx _ => by simp [hx])) (mem_mid [b100, b95] uv110)
                  replace G82 := G82.stepF k112 z90
                  replace L83 := L83.grow k112
                  replace L83 := L83.swap [b100, b95] ov110.lt
                  refine wl_store1 (b := b79) (o := 0) (v := v110) One24 rfl B87 rfl (by simp) ov110.rd.one ?_
                  intro w114 k115 B116
                  replace B116 : Blk w114 b79 [v110] := B116
                  replace B86 := B86.keep k115 (by simp; omega)
                  replace B98 := B98.keep k115 (by simp; omega)
                  replace Bb100 := Bb100.keep k115 (by simp; omega)
                  replace B105 := B105.keep k115 (by simp; omega)
                  replace s84 := s84.go (Keep.one k115 (by simp)) (fun _ h _ => h)
                  replace s85 := s85.go (Keep.one k115 (by simp)) (fun _ h _ => h)
                  replace ov107 := ov107.go (Keep.one k115 (by simp)) (fun _ h _ => h)
                  replace ov110 := ov110.go (Keep.one k115 (by simp)) (fun _ h _ => h)
                  replace G82 := G82.stepF k115 (by simp; omega)
                  replace L83 := L83.grow k115
                  refine wl_nil ?_
                  refine fin0n Try.results61 ?_
                  refine ⟨_, rfl, ?_⟩
                  refine wl_nil ?_
                  refine inBlock_normal ?_
                  refine then_normal ?_
                  refine wc_region ?_
                  refine wl_ok (r_add (p := (k2 : Nat)) (q := 1) rfl rfl (by omega)) ?_
                  refine wl_ok (r_move (v := (.int .i64 (((k2 : Nat) + 1)))) rfl) ?_
                  refine wl_nil ?_
                  refine then_loop ?_
                  have t117 := tk
                  rw [drop_some gp92] at t117
                  simp only [meetAll, meet1, eq_true h49, eq_false h50, eq_false h57, eq_true h91, eq_true h101, eq_false h102i, if_true, if_false, ne_eq, not_true_eq_false, not_false_eq_true, eq_self] at t117
                  exact ⟨(k2 + 1, (o ++ ([xp92.n] : List (Int))), v110), _, rfl, (by repeat (first | (with_reducible exact Agr.hav _ _ _) | (with_reducible refine Agr.on ?_) | ((with_reducible refine Agr.hin ?_ ?_); rfl) | (with_reducible refine Agr.un ?_) | ((with_reducible refine Agr.os ?_ ?_); rfl) | ((with_reducible refine Agr.uc ?_ ?_); rfl))), ⟨rfl, trivial⟩, ⟨G82, (fun x hx => L83 x (List.mem_cons_of_mem _ (List.mem_cons_of_mem _ hx))), (s84.go (Keep.refl _ _) (fun x hx _ => (List.mem_cons_of_mem _ (List.mem_cons_of_mem _ hx)))), (s85.go (Keep.refl _ _) (fun x hx _ => (List.mem_cons_of_mem _ (List.mem_cons_of_mem _ hx)))), B86, B116, B105, (ov110.go (Keep.refl _ _) (fun x hx _ => (List.mem_cons_of_mem _ (List.mem_cons_of_mem _ hx)))), z113, by omega, t117, (good_app hgood h102i (valid_at hval gp92 h101))⟩, (by dsimp only; omega)⟩
                · skip
                  have qh102 : Value.bool (decide (¬ ((xp92.n : Int) ∈ o))) = Value.bool false := by rw [decide_eq_false h102]
                  replace h102 := Decidable.not_not.1 h102
                  have h102i := h102
                  have qh102i : Value.bool (decide ((xp92.n : Int) ∈ o)) = Value.bool true := by rw [decide_eq_true h102i]
                  refine wc_skip ?_
                  refine fin0n Try.results61 ?_
                  refine ⟨_, rfl, ?_⟩
                  refine wl_nil ?_
                  refine inBlock_normal ?_
                  refine then_normal ?_
                  refine wc_region ?_
                  refine wl_ok (r_add (p := (k2 : Nat)) (q := 1) rfl rfl (by omega)) ?_
                  refine wl_ok (r_move (v := (.int .i64 (((k2 : Nat) + 1)))) rfl) ?_
                  refine wl_nil ?_
                  refine then_loop ?_
                  have t118 := tk
                  rw [drop_some gp92] at t118
                  simp only [meetAll, meet1, eq_true h49, eq_false h50, eq_false h57, eq_true h91, eq_true h101, eq_true h102i, if_true, if_false, ne_eq, not_true_eq_false, not_false_eq_true, eq_self] at t118
                  exact ⟨(k2 + 1, o, v1), _, rfl, (by repeat (first | (with_reducible exact Agr.hav _ _ _) | (with_reducible refine Agr.on ?_) | ((with_reducible refine Agr.hin ?_ ?_); rfl) | (with_reducible refine Agr.un ?_) | ((with_reducible refine Agr.os ?_ ?_); rfl) | ((with_reducible refine Agr.uc ?_ ?_); rfl))), ⟨rfl, trivial⟩, ⟨G82, (fun x hx => L83 x (List.mem_cons_of_mem _ (List.mem_cons_of_mem _ hx))), (s84.go (Keep.refl _ _) (fun x hx _ => (List.mem_cons_of_mem _ (List.mem_cons_of_mem _ hx)))), (s85.go (Keep.refl _ _) (fun x hx _ => (List.mem_cons_of_mem _ (List.mem_cons_of_mem _ hx)))), B86, B87, B88, (o89.go (Keep.refl _ _) (fun x hx _ => (List.mem_cons_of_mem _ (List.mem_cons_of_mem _ hx)))), z90, by omega, t118, hgood⟩, (by dsimp only; omega)⟩
              · skip
                have qh101 : Value.bool (decide ((xp92.kind : Int) = 2)) = Value.bool false := by rw [decide_eq_false h101]
                refine wl_off (b' := false) rfl qh101 rfl ?_
                refine wl_off (b' := false) rfl qh101 rfl ?_
                refine wl_off (b' := false) rfl qh101 rfl ?_
                refine wl_off (b' := false) rfl qh101 rfl ?_
                refine wl_off (b' := false) rfl qh101 rfl ?_
                refine wl_ok (r_pick (b := false) (v := (.bool false)) qh101 rfl) ?_
                refine wl_nil ?_
                refine then_normal ?_
                refine wc_iff rfl ?_
                refine wc_skip ?_
                refine fin0n Try.results61 ?_
                refine ⟨_, rfl, ?_⟩
                refine wl_nil ?_
                refine inBlock_normal ?_
                refine then_normal ?_
                refine wc_region ?_
                refine wl_ok (r_add (p := (k2 : Nat)) (q := 1) rfl rfl (by omega)) ?_
                refine wl_ok (r_move (v := (.int .i64 (((k2 : Nat) + 1)))) rfl) ?_
                refine wl_nil ?_
                refine then_loop ?_
                have t119 := tk
                rw [drop_some gp92] at t119
                simp only [meetAll, meet1, eq_true h49, eq_false h50, eq_false h57, eq_true h91, eq_false h101, if_true, if_false, ne_eq, not_true_eq_false, not_false_eq_true, eq_self] at t119
                exact ⟨(k2 + 1, o, v1), _, rfl, (by repeat (first | (with_reducible exact Agr.hav _ _ _) | (with_reducible refine Agr.on ?_) | ((with_reducible refine Agr.hin ?_ ?_); rfl) | (with_reducible refine Agr.un ?_) | ((with_reducible refine Agr.os ?_ ?_); rfl) | ((with_reducible refine Agr.uc ?_ ?_); rfl))), ⟨rfl, trivial⟩, ⟨G82, (fun x hx => L83 x (List.mem_cons_of_mem _ (List.mem_cons_of_mem _ hx))), (s84.go (Keep.refl _ _) (fun x hx _ => (List.mem_cons_of_mem _ (List.mem_cons_of_mem _ hx)))), (s85.go (Keep.refl _ _) (fun x hx _ => (List.mem_cons_of_mem _ (List.mem_cons_of_mem _ hx)))), B86, B87, B88, (o89.go (Keep.refl _ _) (fun x hx _ => (List.mem_cons_of_mem _ (List.mem_cons_of_mem _ hx)))), z90, by omega, t119, hgood⟩, (by dsimp only; omega)⟩
            · skip
              have qh91 : Value.bool (decide (((k2 : Nat) : Int) < (from_.length : Nat))) = Value.bool false := by rw [decide_eq_false h91]
              refine wc_exit ?_
              refine then_exit ?_
              refine then_exit ?_
              have t120 := tk
              rw [drop_done h91] at t120
              simp only [meetAll] at t120
              refine inBlock_eq ?_
              refine then_normal ?_
              refine wc_seq ?_
              refine wc_seq ?_
              refine wc_region ?_
              refine wl_ok (r_assign (v := (.int .i64 (0))) rfl) ?_
              refine wl_nil ?_
              refine then_normal ?_
              refine wc_block ?_
              refine wc_loop (inl [15, 17, 52, 53, 54, 55, 56, 57, 58, 59, 60, 61, 62, 63, 64, 65, 66, 67, 68, 69, 70, 71, 72, 73]) (σ := Nat × List Int × Value) (fun (i, o2, v2) => [(15, (.int .i64 ((i : Nat))))]) (fun (i, o2, v2) wr => Grow w wr ∧ LtM (ob v2 ++ (b79 :: (b74 :: (b72 :: M)))) wr ∧ rSliceRd (rSlice rVal) wr (ob v2 ++ (b79 :: (b74 :: (b72 :: M)))) v l ∧ rSliceRd rVal wr (ob v2 ++ (b79 :: (b74 :: (b72 :: M)))) u from_ ∧ Blk wr b74 [(.map (some b72))] ∧ Blk wr b79 [v2] ∧ MapIs wr b72 (setE o2) ∧ OwnSl rInt 3 wr (b79 :: (b74 :: (b72 :: M))) v2 o2 ∧ (∀ x ∈ ob v2, w.heap.size ≤ x) ∧ i ≤ o2.length ∧ reachGo (l.length - i) l o2 i = reachGo l.length l o 0 ∧ GoodR l.length o2) (fun (i, o2, v2) => l.length - i) ((0, o, v1)) ⟨rfl, trivial⟩ ?_ ?_
              · exact ⟨G82, L83, s84, s85, B86, B87, B88, o89, z90, Nat.zero_le _, rfl, hgood⟩
              · rintro ⟨i, o2, v2⟩ w121 j122 ⟨G123, L124, s125, s126, B127, B128, B129, o130, z131, li, ti, hgood2⟩
                have hle := hgood2.le
                refine wc_seq ?_
                refine wc_seq ?_
                refine wc_region ?_
                refine wl_ok (r_move (v := (.int .i64 ((i : Nat)))) rfl) ?_
                refine wl_ok (r_loadB1 (b := b79) (o := 0) (v := v2) One24 rfl B128 rfl) ?_
                refine wl_ok (r_len_rd (v := v2) SliceOf24 rfl o130.rd) ?_
                refine wl_ok (r_lss (p := (i : Nat)) (q := (o2.length : Nat)) rfl rfl) ?_
                refine wl_nil ?_
                refine then_normal ?_
                refine wc_ifd (p := ((i : Nat) : Int) < (o2.length : Nat)) rfl (fun h132 => ?_) (fun h132 => ?_)
                · skip
                  have qh132 : Value.bool (decide (((i : Nat) : Int) < (o2.length : Nat))) = Value.bool true := by rw [decide_eq_true h132]
                  refine wc_skip ?_
                  refine then_normal ?_
                  refine wc_seq ?_
                  refine wc_block ?_
                  refine wc_seq ?_
                  refine wc_region ?_
                  refine wl_ok (r_move (v := v) rfl) ?_
                  refine wl_ok (r_loadB1 (b := b79) (o := 0) (v := v2) One24 rfl B128 rfl) ?_
                  refine wl_ok (r_move (v := (.int .i64 ((i : Nat)))) rfl) ?_
                  refine wl_indexN (k := i) (v := v2) SliceOf24 rfl rfl o130.rd rfl (by omega) ?_
                  intro p133 cs134 xp133 gp133 hp133 rp133
                  obtain ⟨rfl, ip133⟩ := rp133
                  have hxxp133 := hgood2.get gp133
                  refine wl_ok (r_loadP1 (p := p133) (v := (.int .i64 (xp133))) One3 rfl hp133) ?_
                  refine wl_index (k := xp133) (v := v) SliceOf27 rfl rfl s125 rfl (by omega) (by omega) ?_
                  intro p135 cs136 xp135 gp135 hp135 rp135
                  obtain ⟨vp135, rfl, sp135⟩ := rp135
                  have zp135 := sp135.len_le
                  refine wl_ok (r_loadP1 (p := p135) (v := vp135) One28 rfl hp135) ?_
                  refine wl_ok (r_len_rd (v := vp135) SliceOf28 rfl sp135) ?_
                  refine wl_ok (r_move (v := (.int .i64 (0))) rfl) ?_
                  refine wl_nil ?_
                  refine then_normal ?_
                  refine wc_block ?_
                  have hval2 := checkAll_at h49 gp135
                  refine wc_loop (inl [17, 66, 67, 68, 69, 70, 71, 72, 73]) (σ := Nat × List Int × Value) (fun (j, p, q) => [(66, (.int .i64 ((j : Nat))))]) (fun (j, p, q) wr => Grow w wr ∧ LtM (ob q ++ (b79 :: (b74 :: (b72 :: M)))) wr ∧ rSliceRd (rSlice rVal) wr (ob q ++ (b79 :: (b74 :: (b72 :: M)))) v l ∧ rSliceRd rVal wr (ob q ++ (b79 :: (b74 :: (b72 :: M)))) u from_ ∧ rSliceRd rVal wr (ob q ++ (b79 :: (b74 :: (b72 :: M)))) vp135 xp135 ∧ Blk wr b74 [(.map (some b72))] ∧ Blk wr b79 [q] ∧ MapIs wr b72 (setE p) ∧ OwnSl rInt 3 wr (b79 :: (b74 :: (b72 :: M))) q p ∧ (∀ x ∈ ob q, w.heap.size ≤ x) ∧ j ≤ xp135.length ∧ meetAll p (xp135.drop j) = meetAll o2 xp135 ∧ GoodR l.length p ∧ o2.length ≤ p.length) (fun (j, p, q) => xp135.length - j) ((0, o2, v2)) ⟨rfl, trivial⟩ ?_ ?_
                  · exact ⟨G123, L124, s125, s126, sp135, B127, B128, B129, o130, z131, Nat.zero_le _, rfl, hgood2, Nat.le_refl _⟩
                  · rintro ⟨j, p, q⟩ w137 j138 ⟨G139, L140, s141, s142, s143, B144, B145, B146, o147, z148, lj, tj, hgood3, hpl⟩
                    have hle3 := hgood3.le
                    refine wc_seq ?_
                    refine wc_region ?_
                    refine wl_ok (r_lss (p := (j : Nat)) (q := (xp135.length : Nat)) rfl rfl) ?_
                    refine wl_nil ?_
                    refine then_normal ?_
                    refine wc_seq ?_
                    refine wc_ifd (p := ((j : Nat) : Int) < (xp135.length : Nat)) rfl (fun h149 => ?_) (fun h149 => ?_)
                    · skip
                      have qh149 : Value.bool (decide (((j : Nat) : Int) < (xp135.length : Nat))) = Value.bool true := by rw [decide_eq_true h149]
                      refine wc_skip ?_
                      refine then_normal ?_
                      refine wc_seq ?_
                      refine wc_block ?_
                      refine wc_seq ?_
                      refine wc_region ?_
                      refine wl_indexN (k := j) (v := vp135) SliceOf28 rfl rfl s143 rfl (by omega) ?_
                      intro p150 cs151 xp150 gp150 hp150 rp150
                      obtain ⟨rfl, ip150xkind, ip150xn⟩ := rVal_open rp150
                      refine wl_ok (r_loadPN (p := p150) (cs := [(.int .i64 (xp150.kind)), (.int .i64 (xp150.n))]) Many34 rfl hp150 rfl) ?_
                      refine wl_allocN Many34 ?_
                      intro w152 b153 eb153 kb153 Bb153
                      have lb153 : w.heap.size ≤ b153 := by have := G139.size; omega
                      have nb153xb74 : b74 < b153 := by have := B144.lt; omega
                      have nb153xb79 : b79 < b153 := by have := B145.lt; omega
                      have nb153xb72 : b72 < b153 := by have := B146.lt; omega
                      replace B144 := B144.grow kb153
                      replace B145 := B145.grow kb153
                      replace B146 := B146.grow kb153
                      replace s141 := s141.go (kb153.weaken (fun _ h => absurd h List.not_mem_nil)) (mem_new eb153)
                      replace s142 := s142.go (kb153.weaken (fun _ h => absurd h List.not_mem_nil)) (mem_new eb153)
                      replace s143 := s143.go (kb153.weaken (fun _ h => absurd h List.not_mem_nil)) (mem_new eb153)
                      replace o147 := o147.go (kb153.weaken (fun _ h => absurd h List.not_mem_nil)) (mem_new eb153)
                      replace G139 := G139.grow kb153
                      replace L140 := L140.grow kb153
                      replace L140 := L140.cons Bb153.lt
                      refine wl_storeN (b := b153) (o := 0) (vs := [(.int .i64 (xp150.kind)), (.int .i64 (xp150.n))]) Many34 rfl Bb153 rfl rfl (by simp) (by simp [Value.oneCell']) ?_
                      intro w154 k155 B156
                      replace B156 : Blk w154 b153 [(.int .i64 (xp150.kind)), (.int .i64 (xp150.n))] := B156
                      replace B144 := B144.keep k155 (by simp; omega)
                      replace B145 := B145.keep k155 (by simp; omega)
                      replace B146 := B146.keep k155 (by simp; omega)
                      replace s141 := s141.go (Keep.one k155 (by simp)) (fun _ h _ => h)
                      replace s142 := s142.go (Keep.one k155 (by simp)) (fun _ h _ => h)
                      replace s143 := s143.go (Keep.one k155 (by simp)) (fun _ h _ => h)
                      replace o147 := o147.go (Keep.one k155 (by simp)) (fun _ h _ => h)
                      replace G139 := G139.stepF k155 (by simp; omega)
                      replace L140 := L140.grow k155
                      refine wl_nil ?_
                      refine then_normal ?_
                      refine wc_region ?_
                      refine wl_ok (r_move (v := (.func (.func 61) #[] #[(.pointer (some ⟨b74, 0, none⟩)), (.pointer (some ⟨b79, 0, none⟩))])) rfl) ?_
                      refine wl_ok (r_loadBN (b := b153) (o := 0) (vs := [(.int .i64 (xp150.kind)), (.int .i64 (xp150.n))]) Many34 rfl B156 rfl rfl) ?_
                      refine wl_callIn (args := [(.agg #[(.int .i64 (xp150.kind)), (.int .i64 (xp150.n))]), (.pointer (some ⟨b74, 0, none⟩)), (.pointer (some ⟨b79, 0, none⟩))]) fnOk61 rfl rfl ?_
                      refine calls_start (args := [(.agg #[(.int .i64 (xp150.kind)), (.int .i64 (xp150.n))]), (.pointer (some ⟨b74, 0, none⟩)), (.pointer (some ⟨b79, 0, none⟩))]) Try.func61 rfl Try.ntmps61 (Nat.le_of_ble_eq_true rfl) ?_
                      refine wc_seq ?_
                      refine wc_region ?_
                      refine wl_box (cs := [(.int .i64 (xp150.kind)), (.int .i64 (xp150.n))]) rfl ?_
                      intro w157 b158 eb158 kb158 Bb158
                      have lb158 : w.heap.size ≤ b158 := by have := G139.size; omega
                      have nb158xb74 : b74 < b158 := by have := B144.lt; omega
                      have nb158xb79 : b79 < b158 := by have := B145.lt; omega
                      have nb158xb153 : b153 < b158 := by have := B156.lt; omega
                      have nb158xb72 : b72 < b158 := by have := B146.lt; omega
                      replace B144 := B144.grow kb158
                      replace B145 := B145.grow kb158
                      replace B156 := B156.grow kb158
                      replace B146 := B146.grow kb158
                      replace s141 := s141.go (kb158.weaken (fun _ h => absurd h List.not_mem_nil)) (mem_new eb158)
                      replace s142 := s142.go (kb158.weaken (fun _ h => absurd h List.not_mem_nil)) (mem_new eb158)
                      replace s143 := s143.go (kb158.weaken (fun _ h => absurd h List.not_mem_nil)) (mem_new eb158)
                      replace o147 := o147.go (kb158.weaken (fun _ h => absurd h List.not_mem_nil)) (mem_new eb158)
                      replace G139 := G139.grow kb158
                      replace L140 := L140.grow kb158
                      replace L140 := L140.cons Bb158.lt
                      refine wl_nil ?_
                      refine then_normal ?_
                      refine wc_seq ?_
                      refine wc_region ?_
                      refine wl_ok (r_fieldAddr (b := b158) (o := 0) Fld34x0 rfl) ?_
                      refine wl_ok (r_loadB1 (b := b158) (o := 0) (v := (.int .i64 (xp150.kind))) One3 rfl Bb158 rfl) ?_
                      refine wl_ok (r_eql (p := xp150.kind) (q := 2) rfl rfl) ?_
                      refine wl_ok (r_move (v := (.bool (decide ((xp150.kind : Int) = 2)))) rfl) ?_
                      refine (Decidable.em ((xp150.kind : Int) = 2)).elim (fun h159 => ?_) (fun h159 => ?_)
                      · skip
                        have qh159 : Value.bool (decide ((xp150.kind : Int) = 2)) = Value.bool true := by rw [decide_eq_true h159]
                        refine wl_on rfl qh159 ?_
                        refine wl_ok (r_loadB1 (b := b74) (o := 0) (v := (.map (some b72))) One31 rfl B144 rfl) ?_
                        refine wl_on rfl qh159 ?_
                        refine wl_ok (r_fieldAddr (b := b158) (o := 0) Fld34x1 rfl) ?_
                        refine wl_on rfl qh159 ?_
                        refine wl_ok (r_loadB1 (b := b158) (o := 1) (v := (.int .i64 (xp150.n))) One3 rfl Bb158 rfl) ?_
                        refine wl_on rfl qh159 ?_
                        refine wl_lookupS (b := b72) (k := xp150.n) (l := p) MapOf31 rfl rfl B146 ?_
                        refine wl_on rfl qh159 ?_
                        refine wl_ok (r_notd (p := (xp150.n : Int) ∈ p) rfl) ?_
                        refine wl_ok (r_pick (b := true) (v := (.bool (decide (¬ ((xp150.n : Int) ∈ p))))) qh159 rfl) ?_
                        refine wl_nil ?_
                        refine then_normal ?_
                        refine wc_ifd (p := ¬ ((xp150.n : Int) ∈ p)) rfl (fun h160 => ?_) (fun h160 => ?_)
                        · skip
                          have qh160 : Value.bool (decide (¬ ((xp150.n : Int) ∈ p))) = Value.bool true := by rw [decide_eq_true h160]
                          have h160i := h160
                          have qh160i : Value.bool (decide ((xp150.n : Int) ∈ p)) = Value.bool false := by rw [decide_eq_false h160i]
                          refine wc_seq ?_
                          refine wc_region ?_
                          refine wl_ok (r_loadB1 (b := b74) (o := 0) (v := (.map (some b72))) One31 rfl B144 rfl) ?_
                          refine wl_ok (r_fieldAddr (b := b158) (o := 0) Fld34x1 rfl) ?_
                          refine wl_ok (r_loadB1 (b := b158) (o := 1) (v := (.int .i64 (xp150.n))) One3 rfl Bb158 rfl) ?_
                          refine wl_mapUpdateS (b := b72) (k := xp150.n) (l := p) MapOf31 rfl rfl rfl B146 ?_
                          intro w161 k162 B163
                          rw [ins_new (of_decide_eq_false (Value.bool.inj qh160i))] at B163
                          replace B144 := B144.keep k162 (by simp; omega)
                          replace B145 := B145.keep k162 (by simp; omega)
                          replace B156 := B156.keep k162 (by simp; omega)
                          replace Bb158 := Bb158.keep k162 (by simp; omega)
                          replace s141 := s141.go (Keep.one k162 (by simp)) (fun _ h _ => h)
                          replace s142 := s142.go (Keep.one k162 (by simp)) (fun _ h _ => h)
                          replace s143 := s143.go (Keep.one k162 (by simp)) (fun _ h _ => h)
                          replace o147 := o147.go (Keep.one k162 (by simp)) (fun _ h _ => h)
                          replace G139 := G139.stepF k162 (by simp; omega)
                          replace L140 := L140.grow k162
                          refine wl_nil ?_
                          refine then_normal ?_
                          refine wc_region ?_
                          refine wl_ok (r_loadB1 (b := b79) (o := 0) (v := q) One24 rfl B145 rfl) ?_
                          refine wl_ok (r_fieldAddr (b := b158) (o := 0) Fld34x1 rfl) ?_
                          refine wl_ok (r_loadB1 (b := b158) (o := 1) (v := (.int .i64 (xp150.n))) One3 rfl Bb158 rfl) ?_
                          refine wl_buildSlice (R := rInt) (M := (b158 :: (b153 :: (ob q ++ (b79 :: (b74 :: (b72 :: M))))))) (vs := [(.int .i64 (xp150.n))]) (xs := [xp150.n]) ElemOf24 rfl rfl rfl ⟨⟨rfl, (by omega)⟩, trivial⟩ L140 (by decide) ?_
                          intro w164 v165 k166 ov165 uv165
                          have z167 : ∀ x ∈ ob v165, w.heap.size ≤ x := fresh_new G139.size rfl uv165
                          replace B144 := B144.grow k166
                          replace B145 := B145.grow k166
                          replace B156 := B156.grow k166
                          replace Bb158 := Bb158.grow k166
                          replace B163 := B163.grow k166
                          replace s141 := s141.go (k166.weaken (fun _ h => absurd h List.not_mem_nil)) (fun _ h _ => h)
                          replace s142 := s142.go (k166.weaken (fun _ h => absurd h List.not_mem_nil)) (fun _ h _ => h)
                          replace s143 := s143.go (k166.weaken (fun _ h => absurd h List.not_mem_nil)) (fun _ h _ => h)
                          replace o147 := o147.go (k166.weaken (fun _ h => absurd h List.not_mem_nil)) (fun _ h _ => h)
                          replace G139 := G139.grow k166
                          replace L140 := L140.grow k166
                          refine wl_append (R := rInt) (v := q) (u := v165) (l := p) (m := ([xp150.n] : List (Int))) (M := (b158 :: (b153 :: (b79 :: (b74 :: (b72 :: M)))))) ElemOf24 rfl rfl o147 rfl (ov165.rd.go (Keep.refl _ _) (fun x hx _ => mem_rot [b158, b153] hx)) (fun x hx => L140 x (mem_ins (ob q) [b158, b153] hx)) (by first | omega | (simp; omega)) (by first | omega | (simp; omega)) ?_
                          intro v168 w169 ov168 k170 uv168
                          have z171 : ∀ x ∈ ob v168, w.heap.size ≤ x := fresh_app z148 G139.size uv168
                          replace B144 := B144.keep k170 (fun hb => o147.apart _ hb (by simp))
                          replace B145 := B145.keep k170 (fun hb => o147.apart _ hb (by simp))
                          replace B156 := B156.keep k170 (fun hb => o147.apart _ hb (by simp))
                          replace Bb158 := Bb158.keep k170 (fun hb => o147.apart _ hb (by simp))
                          replace B163 := B163.keep k170 (fun hb => o147.apart _ hb (by simp))
                          replace s141 := s141.go (k170.weaken (fun x hx _ => by simp [hx])) (mem_mid [b158, b153] uv168)
                          replace s142 := s142.go (k170.weaken (fun x hx _ => by simp [hx])) (mem_mid [b158, b153] uv168)
                          replace s143 := s143.go (k170.weaken (fun x hx _ => by simp [hx])) (mem_mid [b158, b153] uv168)
                          replace ov165 := ov165.go (k170.weaken (fun x hx _ => by simp [hx])) (mem_mid [b158, b153] uv168)
                          replace G139 := G139.stepF k170 z148
                          replace L140 := L140.grow k170
                          replace L140 := L140.swap [b158, b153] ov168.lt
                          refine wl_store1 (b := b79) (o := 0) (v := v168) One24 rfl B145 rfl (by simp) ov168.rd.one ?_
                          intro w172 k173 B174
                          replace B174 : Blk w172 b79 [v168] := B174
                          replace B144 := B144.keep k173 (by simp; omega)
                          replace B156 := B156.keep k173 (by simp; omega)
                          replace Bb158 := Bb158.keep k173 (by simp; omega)
                          replace B163 := B163.keep k173 (by simp; omega)
                          replace s141 := s141.go (Keep.one k173 (by simp)) (fun _ h _ => h)
                          replace s142 := s142.go (Keep.one k173 (by simp)) (fun _ h _ => h)
                          replace s143 := s143.go (Keep.one k173 (by simp)) (fun _ h _ => h)
                          replace ov165 := ov165.go (Keep.one k173 (by simp)) (fun _ h _ => h)
                          replace ov168 := ov168.go (Keep.one k173 (by simp)) (fun _ h _ => h)
                          replace G139 := G139.stepF k173 (by simp; omega)
                          replace L140 := L140.grow k173
                          refine wl_nil ?_
                          refine fin0n Try.results61 ?_
                          refine ⟨_, rfl, ?_⟩
                          refine wl_nil ?_
                          refine inBlock_normal ?_
                          refine then_normal ?_
                          refine wc_region ?_
                          refine wl_ok (r_add (p := (j : Nat)) (q := 1) rfl rfl (by omega)) ?_
                          refine wl_ok (r_move (v := (.int .i64 (((j : Nat) + 1)))) rfl) ?_
                          refine wl_nil ?_
                          refine then_loop ?_
                          have t175 := tj
                          rw [drop_some gp150] at t175
                          simp only [meetAll, meet1, eq_true h49, eq_false h50, eq_false h57, eq_false h91, eq_true h132, eq_true h149, eq_true h159, eq_false h160i, if_true, if_false, ne_eq, not_true_eq_false, not_false_eq_true, eq_self] at t175
                          exact ⟨(j + 1, (p ++ ([xp150.n] : List (Int))), v168), _, rfl, (by repeat (first | (with_reducible exact Agr.hav _ _ _) | (with_reducible refine Agr.on ?_) | ((with_reducible refine Agr.hin ?_ ?_); rfl) | (with_reducible refine Agr.un ?_) | ((with_reducible refine Agr.os ?_ ?_); rfl) | ((with_reducible refine Agr.uc ?_ ?_); rfl))), ⟨rfl, trivial⟩, ⟨G139, (fun x hx => L140 x (List.mem_cons_of_mem _ (List.mem_cons_of_mem _ hx))), (s141.go (Keep.refl _ _) (fun x hx _ => (List.mem_cons_of_mem _ (List.mem_cons_of_mem _ hx)))), (s142.go (Keep.refl _ _) (fun x hx _ => (List.mem_cons_of_mem _ (List.mem_cons_of_mem _ hx)))), (s143.go (Keep.refl _ _) (fun x hx _ => (List.mem_cons_of_mem _ (List.mem_cons_of_mem _ hx)))), B144, B174, B163, (ov168.go (Keep.refl _ _) (fun x hx _ => (List.mem_cons_of_mem _ (List.mem_cons_of_mem _ hx)))), z171, by omega, t175, (good_app hgood3 h160i (valid_at hval2 gp150 h159)), by simp; omega⟩, (by dsimp only; omega)⟩
                        · skip
                          have qh160 : Value.bool (decide (¬ ((xp150.n : Int) ∈ p))) = Value.bool false := by rw [decide_eq_false h160]
                          replace h160 := Decidable.not_not.1 h160
                          have h160i := h160
                          have qh160i : Value.bool (decide ((xp150.n : Int) ∈ p)) = Value.bool true := by rw [decide_eq_true h160i]
                          refine wc_skip ?_
                          refine fin0n Try.results61 ?_
                          refine ⟨_, rfl, ?_⟩
                          refine wl_nil ?_
                          refine inBlock_normal ?_
                          refine then_normal ?_
                          refine wc_region ?_
                          refine wl_ok (r_add (p := (j : Nat)) (q := 1) rfl rfl (by omega)) ?_
                          refine wl_ok (r_move (v := (.int .i64 (((j : Nat) + 1)))) rfl) ?_
                          refine wl_nil ?_
                          refine then_loop ?_
                          have t176 := tj
                          rw [drop_some gp150] at t176
                          simp only [meetAll, meet1, eq_true h49, eq_false h50, eq_false h57, eq_false h91, eq_true h132, eq_true h149, eq_true h159, eq_true h160i, if_true, if_false, ne_eq, not_true_eq_false, not_false_eq_true, eq_self] at t176
                          exact ⟨(j + 1, p, q), _, rfl, (by repeat (first | (with_reducible exact Agr.hav _ _ _) | (with_reducible refine Agr.on ?_) | ((with_reducible refine Agr.hin ?_ ?_); rfl) | (with_reducible refine Agr.un ?_) | ((with_reducible refine Agr.os ?_ ?_); rfl) | ((with_reducible refine Agr.uc ?_ ?_); rfl))), ⟨rfl, trivial⟩, ⟨G139, (fun x hx => L140 x (List.mem_cons_of_mem _ (List.mem_cons_of_mem _ hx))), (s141.go (Keep.refl _ _) (fun x hx _ => (List.mem_cons_of_mem _ (List.mem_cons_of_mem _ hx)))), (s142.go (Keep.refl _ _) (fun x hx _ => (List.mem_cons_of_mem _ (List.mem_cons_of_mem _ hx)))), (s143.go (Keep.refl _ _) (fun x hx _ => (List.mem_cons_of_mem _ (List.mem_cons_of_mem _ hx)))), B144, B145, B146, (o147.go (Keep.refl _ _) (fun x hx _ => (List.mem_cons_of_mem _ (List.mem_cons_of_mem _ hx)))), z148, by omega, t176, hgood3, hpl⟩, (by dsimp only; omega)⟩
                      · skip
                        have qh159 : Value.bool (decide ((xp150.kind : Int) = 2)) = Value.bool false := by rw [decide_eq_false h159]
                        refine wl_off (b' := false) rfl qh159 rfl ?_
                        refine wl_off (b' := false) rfl qh159 rfl ?_
                        refine wl_off (b' := false) rfl qh159 rfl ?_
                        refine wl_off (b' := false) rfl qh159 rfl ?_
                        refine wl_off (b' := false) rfl qh159 rfl ?_
                        refine wl_ok (r_pick (b := false) (v := (.bool false)) qh159 rfl) ?_
                        refine wl_nil ?_
                        refine then_normal ?_
                        refine wc_iff rfl ?_
                        refine wc_skip ?_
                        refine fin0n Try.results61 ?_
                        refine ⟨_, rfl, ?_⟩
                        refine wl_nil ?_
                        refine inBlock_normal ?_
                        refine then_normal ?_
                        refine wc_region ?_
                        refine wl_ok (r_add (p := (j : Nat)) (q := 1) rfl rfl (by omega)) ?_
                        refine wl_ok (r_move (v := (.int .i64 (((j : Nat) + 1)))) rfl) ?_
                        refine wl_nil ?_
                        refine then_loop ?_
                        have t177 := tj
                        rw [drop_some gp150] at t177
                        simp only [meetAll, meet1, eq_true h49, eq_false h50, eq_false h57, eq_false h91, eq_true h132, eq_true h149, eq_false h159, if_true, if_false, ne_eq, not_true_eq_false, not_false_eq_true, eq_self] at t177
                        exact ⟨(j + 1, p, q), _, rfl, (by repeat (first | (with_reducible exact Agr.hav _ _ _) | (with_reducible refine Agr.on ?_) | ((with_reducible refine Agr.hin ?_ ?_); rfl) | (with_reducible refine Agr.un ?_) | ((with_reducible refine Agr.os ?_ ?_); rfl) | ((with_reducible refine Agr.uc ?_ ?_); rfl))), ⟨rfl, trivial⟩, ⟨G139, (fun x hx => L140 x (List.mem_cons_of_mem _ (List.mem_cons_of_mem _ hx))), (s141.go (Keep.refl _ _) (fun x hx _ => (List.mem_cons_of_mem _ (List.mem_cons_of_mem _ hx)))), (s142.go (Keep.refl _ _) (fun x hx _ => (List.mem_cons_of_mem _ (List.mem_cons_of_mem _ hx)))), (s143.go (Keep.refl _ _) (fun x hx _ => (List.mem_cons_of_mem _ (List.mem_cons_of_mem _ hx)))), B144, B145, B146, (o147.go (Keep.refl _ _) (fun x hx _ => (List.mem_cons_of_mem _ (List.mem_cons_of_mem _ hx)))), z148, by omega, t177, hgood3, hpl⟩, (by dsimp only; omega)⟩
                    · skip
                      have qh149 : Value.bool (decide (((j : Nat) : Int) < (xp135.length : Nat))) = Value.bool false := by rw [decide_eq_false h149]
                      refine wc_exit ?_
                      refine then_exit ?_
                      refine then_exit ?_
                      have t178 := tj
                      rw [drop_done h149] at t178
                      simp only [meetAll] at t178
                      have hle2 : i + 1 ≤ p.length := by omega
                      refine inBlock_eq ?_
                      refine inBlock_normal ?_
                      refine then_normal ?_
                      refine wc_region ?_
                      refine wl_ok (r_move (v := (.int .i64 ((i : Nat)))) rfl) ?_
                      refine wl_ok (r_add (p := (i : Nat)) (q := 1) rfl rfl (by omega)) ?_
                      refine wl_ok (r_assign (v := (.int .i64 (((i : Nat) + 1)))) rfl) ?_
                      refine wl_nil ?_
                      refine then_loop ?_
                      have t179 := ti
                      rw [reachGo_step hgood2 h132 gp133 gp135, ← t178] at t179
                      exact ⟨(i + 1, p, q), _, rfl, (by repeat (first | (with_reducible exact Agr.hav _ _ _) | (with_reducible refine Agr.on ?_) | ((with_reducible refine Agr.hin ?_ ?_); rfl) | (with_reducible refine Agr.un ?_) | ((with_reducible refine Agr.os ?_ ?_); rfl) | ((with_reducible refine Agr.uc ?_ ?_); rfl))), ⟨rfl, trivial⟩, ⟨G139, L140, s141, s142, B144, B145, B146, o147, z148, hle2, t179, hgood3⟩, (by have := hgood2.le; dsimp only; omega)⟩
                · skip
                  have qh132 : Value.bool (decide (((i : Nat) : Int) < (o2.length : Nat))) = Value.bool false := by rw [decide_eq_false h132]
                  refine wc_exit ?_
                  refine then_exit ?_
                  refine then_exit ?_
                  have t180 := ti
                  rw [reachGo_done h132] at t180
                  refine inBlock_eq ?_
                  refine then_normal ?_
                  refine wc_seq ?_
                  refine wc_region ?_
                  refine wl_ok (r_loadB1 (b := b79) (o := 0) (v := v2) One24 rfl B128 rfl) ?_
                  refine wl_ok (r_assign (v := v2) rfl) ?_
                  refine wl_ok (r_assign (v := (.int .i64 (0))) rfl) ?_
                  refine wl_nil ?_
                  refine then_normal ?_
                  refine wc_ret ?_
                  refine fin2 (v1 := v2) (v2 := (.int .i64 (0))) Try.results15 rfl rfl ?_
                  have fin : reach l from_ = (o2, 0) := by simp only [reach, eq_true h49, eq_false h50, eq_false h57, eq_false h91, eq_false h132, ← t70, ← t120, ← t180, if_true, if_false, ne_eq, not_true_eq_false, not_false_eq_true, eq_self]
                  exact ⟨_, by rw [fin], by rw [fin]; exact (o130.go (Keep.refl _ _) (fun x hx _ => by grind)), z131, G123⟩

theorem cloneVals_calls (M : List Nat) (w : World) (hL : LtM M w) (v : Value) (l : List Val) (hv : rSliceRd rVal w M v l) (hb : l.length ≤ 1000000) : Calls Try.prog 17 #[v] w
    (fun e w' => ∃ r, e = .returned r ∧ OwnSl rVal 34 w' M r l ∧ (∀ x ∈ ob r, w.heap.size ≤ x) ∧ Grow w w') := by
  refine calls_start (args := [v]) Try.func17 rfl Try.ntmps17 (Nat.le_of_ble_eq_true rfl) ?_
  have hG : Grow w w := Keep.refl _ _
  refine wc_seq ?_
  refine wc_region ?_
  refine wl_ok (r_assign (v := (.slice none 0 0)) rfl) ?_
  refine wl_nil ?_
  refine then_normal ?_
  refine wc_seq ?_
  refine wc_seq ?_
  refine wc_region ?_
  refine wl_ok (r_move (v := v) rfl) ?_
  refine wl_ok (r_eqnil SliceOf28 rfl hv rfl) ?_
  refine wl_nil ?_
  refine then_normal ?_
  refine wc_if (t := isNil v) rfl (fun h181 => ?_) (fun h181 => ?_)
  · skip
    have qh181 : Value.bool (isNil v) = Value.bool true := by rw [h181]
    refine wc_seq ?_
    refine wc_region ?_
    refine wl_ok (r_assign (v := (.slice none 0 0)) rfl) ?_
    refine wl_nil ?_
    refine then_normal ?_
    refine wc_ret ?_
    refine then_ret ?_
    refine fin1 (v := (.slice none 0 0)) Try.results17 rfl ?_
    obtain ⟨_, rfl⟩ := nil_of_isNil hv h181
    exact ⟨_, rfl, OwnSl.nil, fresh_nil, hG⟩
  · skip
    have qh181 : Value.bool (isNil v) = Value.bool false := by rw [h181]
    refine wc_skip ?_
    refine then_normal ?_
    refine wc_seq ?_
    refine wc_region ?_
    refine wl_buildSlice (R := rVal) (M := M) (vs := []) (xs := []) ElemOf28 rfl rfl rfl trivial hL (by decide) ?_
    intro w182 v183 k184 ov183 uv183
    have z185 : ∀ x ∈ ob v183, w.heap.size ≤ x := fresh_new hG.size rfl uv183
    replace hv := hv.go (k184.weaken (fun _ h => absurd h List.not_mem_nil)) (mem_newO (fun b hb => Nat.le_of_eq (uv183 b hb)))
    replace hG := hG.grow k184
    replace hL := hL.grow k184
    replace hL := hL.own ov183
    refine wl_ok (r_move (v := v) rfl) ?_
    refine wl_append (R := rVal) (v := v183) (u := v) (l := ([] : List (Val))) (m := l) (M := M) ElemOf28 rfl rfl ov183 rfl hv (fun x hx => hL x (List.mem_append_right _ hx)) (by first | omega | (simp; omega)) (by first | omega | (simp; omega)) ?_
    intro v186 w187 ov186 k188 uv186
    have z189 : ∀ x ∈ ob v186, w.heap.size ≤ x := fresh_app z185 hG.size uv186
    replace hv := hv.go (k188.weaken (fun x hx _ => by simp [hx])) (mem_mid [] uv186)
    replace hG := hG.stepF k188 z185
    replace hL := hL.grow k188
    replace hL := hL.swap [] ov186.lt
    refine wl_ok (r_assign (v := v186) rfl) ?_
    refine wl_nil ?_
    refine then_normal ?_
    refine wc_ret ?_
    refine fin1 (v := v186) Try.results17 rfl ?_
    exact ⟨_, rfl, (by simpa using ov186), z189, hG⟩

def ringL : List (List Val) := [[⟨0, 0⟩], [⟨2, 2⟩, ⟨1, 5⟩], [⟨2, 1⟩]]
theorem ring_calls (M : List Nat) (w : World) (hL : LtM M w)  : Calls Try.prog 62 #[] w
    (fun e w' => ∃ r, e = .returned r ∧ OwnSl (rSlice rVal) 28 w' M r ringL ∧ (∀ x ∈ ob r, w.heap.size ≤ x) ∧ Grow w w') := by
  refine calls_start (args := []) Try.func62 rfl Try.ntmps62 (Nat.le_of_ble_eq_true rfl) ?_
  have hG : Grow w w := Keep.refl _ _
  refine wc_seq ?_
  refine wc_region ?_
  refine wl_ok (r_assign (v := (.slice none 0 0)) rfl) ?_
  refine wl_nil ?_
  refine then_normal ?_
  refine wc_seq ?_
  refine wc_region ?_
  refine wl_ok (r_build (out := [(.int .i64 (0)), (.int .i64 (0))]) Struct34 rfl rfl) ?_
  refine wl_buildSlice (R := rVal) (M := M) (vs := [(.agg #[(.int .i64 (0)), (.int .i64 (0))])]) (xs := [(⟨0, 0⟩ : Val)]) ElemOf28 rfl rfl rfl ⟨⟨rfl, (by first | omega | (dsimp only; omega)), (by first | omega | (dsimp only; omega))⟩, trivial⟩ hL (by decide) ?_
  intro w190 v191 k192 ov191 uv191
  have z193 : ∀ x ∈ ob v191, w.heap.size ≤ x := fresh_new hG.size rfl uv191
  replace hG := hG.grow k192
  replace hL := hL.grow k192
  refine wl_ok (r_build (out := [(.int .i64 (2)), (.int .i64 (2))]) Struct34 rfl ⟨0, 1, [(.int .i64 (2))], rfl, rfl, rfl, by decide, ⟨1, 1, [(.int .i64 (2))], rfl, rfl, rfl, by decide, rfl⟩⟩) ?_
  refine wl_ok (r_build (out := [(.int .i64 (1)), (.int .i64 (5))]) Struct34 rfl ⟨0, 1, [(.int .i64 (1))], rfl, rfl, rfl, by decide, ⟨1, 1, [(.int .i64 (5))], rfl, rfl, rfl, by decide, rfl⟩⟩) ?_
  refine wl_buildSlice (R := rVal) (M := M) (vs := [(.agg #[(.int .i64 (2)), (.int .i64 (2))]), (.agg #[(.int .i64 (1)), (.int .i64 (5))])]) (xs := [(⟨2, 2⟩ : Val), (⟨1, 5⟩ : Val)]) ElemOf28 rfl rfl rfl ⟨⟨rfl, (by first | omega | (dsimp only; omega)), (by first | omega | (dsimp only; omega))⟩, ⟨rfl, (by first | omega | (dsimp only; omega)), (by first | omega | (dsimp only; omega))⟩, trivial⟩ hL (by decide) ?_
  intro w194 v195 k196 ov195 uv195
  have z197 : ∀ x ∈ ob v195, w.heap.size ≤ x := fresh_new hG.size rfl uv195
  replace ov191 := ov191.go (k196.weaken (fun _ h => absurd h List.not_mem_nil)) (fun _ h _ => h)
  replace hG := hG.grow k196
  replace hL := hL.grow k196
  refine wl_ok (r_build (out := [(.int .i64 (2)), (.int .i64 (1))]) Struct34 rfl ⟨0, 1, [(.int .i64 (2))], rfl, rfl, rfl, by decide, ⟨1, 1, [(.int .i64 (1))], rfl, rfl, rfl, by decide, rfl⟩⟩) ?_
  refine wl_buildSlice (R := rVal) (M := M) (vs := [(.agg #[(.int .i64 (2)), (.int .i64 (1))])]) (xs := [(⟨2, 1⟩ : Val)]) ElemOf28 rfl rfl rfl ⟨⟨rfl, (by first | omega | (dsimp only; omega)), (by first | omega | (dsimp only; omega))⟩, trivial⟩ hL (by decide) ?_
  intro w198 v199 k200 ov199 uv199
  have z201 : ∀ x ∈ ob v199, w.heap.size ≤ x := fresh_new hG.size rfl uv199
  replace ov191 := ov191.go (k200.weaken (fun _ h => absurd h List.not_mem_nil)) (fun _ h _ => h)
  replace ov195 := ov195.go (k200.weaken (fun _ h => absurd h List.not_mem_nil)) (fun _ h _ => h)
  replace hG := hG.grow k200
  replace hL := hL.grow k200
  refine wl_buildSlice (R := (rSlice rVal)) (M := M) (vs := [v191, v195, v199]) (xs := [([(⟨0, 0⟩ : Val)] : List (Val)), ([(⟨2, 2⟩ : Val), (⟨1, 5⟩ : Val)] : List (Val)), ([(⟨2, 1⟩ : Val)] : List (Val))]) ElemOf27 rfl rfl rfl ⟨ov191.rd.rdc, ov195.rd.rdc, ov199.rd.rdc, trivial⟩ hL (by decide) ?_
  intro w202 v203 k204 ov203 uv203
  have z205 : ∀ x ∈ ob v203, w.heap.size ≤ x := fresh_new hG.size rfl uv203
  replace ov191 := ov191.go (k204.weaken (fun _ h => absurd h List.not_mem_nil)) (fun _ h _ => h)
  replace ov195 := ov195.go (k204.weaken (fun _ h => absurd h List.not_mem_nil)) (fun _ h _ => h)
  replace ov199 := ov199.go (k204.weaken (fun _ h => absurd h List.not_mem_nil)) (fun _ h _ => h)
  replace hG := hG.grow k204
  replace hL := hL.grow k204
  refine wl_ok (r_assign (v := v203) rfl) ?_
  refine wl_nil ?_
  refine then_normal ?_
  refine wc_ret ?_
  refine fin1 (v := v203) Try.results62 rfl ?_
  exact ⟨_, rfl, ov203, z205, hG⟩

theorem met_calls (M : List Nat) (w : World) (hL : LtM M w)  : Calls Try.prog 16 #[] w
    (fun e w' => e = .returned (.bool true) ∧ Grow w w') := by
  refine calls_start (args := []) Try.func16 rfl Try.ntmps16 (Nat.le_of_ble_eq_true rfl) ?_
  have hG : Grow w w := Keep.refl _ _
  refine wc_seq ?_
  refine wc_region ?_
  refine wl_ok (r_assign (v := (.bool false)) rfl) ?_
  refine wl_nil ?_
  refine then_normal ?_
  refine wc_seq ?_
  refine wc_region ?_
  refine wl_call (args := []) fnOk62 rfl rfl (ring_calls M _ hL ) ?_
  rintro _ w206 ⟨v208, rfl, ov208, fv208, k207⟩
  refine ⟨_, rfl, ?_⟩
  have z209 : ∀ x ∈ ob v208, w.heap.size ≤ x := fun x hx => Nat.le_trans hG.size (fv208 x hx)
  replace hG := hG.grow k207
  replace hL := hL.grow k207
  refine wl_ok (r_build (out := [(.int .i64 (0)), (.int .i64 (0))]) Struct34 rfl rfl) ?_
  refine wl_ok (r_build (out := [(.int .i64 (2)), (.int .i64 (2))]) Struct34 rfl ⟨0, 1, [(.int .i64 (2))], rfl, rfl, rfl, by decide, ⟨1, 1, [(.int .i64 (2))], rfl, rfl, rfl, by decide, rfl⟩⟩) ?_
  refine wl_buildSlice (R := rVal) (M := M) (vs := [(.agg #[(.int .i64 (0)), (.int .i64 (0))]), (.agg #[(.int .i64 (2)), (.int .i64 (2))])]) (xs := [(⟨0, 0⟩ : Val), (⟨2, 2⟩ : Val)]) ElemOf28 rfl rfl rfl ⟨⟨rfl, (by first | omega | (dsimp only; omega)), (by first | omega | (dsimp only; omega))⟩, ⟨rfl, (by first | omega | (dsimp only; omega)), (by first | omega | (dsimp only; omega))⟩, trivial⟩ hL (by decide) ?_
  intro w210 v211 k212 ov211 uv211
  have z213 : ∀ x ∈ ob v211, w.heap.size ≤ x := fresh_new hG.size rfl uv211
  replace ov208 := ov208.go (k212.weaken (fun _ h => absurd h List.not_mem_nil)) (fun _ h _ => h)
  replace hG := hG.grow k212
  replace hL := hL.grow k212
  refine wl_call (args := [v208, v211]) fnOk15 rfl rfl (reach_calls M _ hL v208 ringL v211 ([(⟨0, 0⟩ : Val), (⟨2, 2⟩ : Val)] : List (Val)) ov208.rd ov211.rd) ?_
  rintro _ w214 ⟨v216, rfl, ov216, fv216, k215⟩
  refine ⟨_, rfl, ?_⟩
  have z217 : ∀ x ∈ ob v216, w.heap.size ≤ x := fun x hx => Nat.le_trans hG.size (fv216 x hx)
  replace ov208 := ov208.go (k215.weaken (fun _ h => absurd h List.not_mem_nil)) (fun _ h _ => h)
  replace ov211 := ov211.go (k215.weaken (fun _ h => absurd h List.not_mem_nil)) (fun _ h _ => h)
  replace hG := hG.grow k215
  replace hL := hL.grow k215
  refine wl_ok (r_move (v := (.tuple #[v216, (.int .i64 ((reach ringL ([(⟨0, 0⟩ : Val), (⟨2, 2⟩ : Val)] : List (Val))).2))])) rfl) ?_
  refine wl_ok (r_extract (vs := [v216, (.int .i64 ((reach ringL ([(⟨0, 0⟩ : Val), (⟨2, 2⟩ : Val)] : List (Val))).2))]) (v := v216) rfl rfl) ?_
  refine wl_ok (r_extract (vs := [v216, (.int .i64 ((reach ringL ([(⟨0, 0⟩ : Val), (⟨2, 2⟩ : Val)] : List (Val))).2))]) (v := (.int .i64 ((reach ringL ([(⟨0, 0⟩ : Val), (⟨2, 2⟩ : Val)] : List (Val))).2))) rfl rfl) ?_
  refine wl_ok (r_assign (v := v216) rfl) ?_
  refine wl_ok (r_assign (v := (.int .i64 ((reach ringL ([(⟨0, 0⟩ : Val), (⟨2, 2⟩ : Val)] : List (Val))).2))) rfl) ?_
  refine wl_nil ?_
  refine then_normal ?_
  refine wc_seq ?_
  refine wc_region ?_
  refine wl_ok (r_move (v := (.int .i64 ((reach ringL ([(⟨0, 0⟩ : Val), (⟨2, 2⟩ : Val)] : List (Val))).2))) rfl) ?_
  refine wl_ok (r_eql (p := (reach ringL ([(⟨0, 0⟩ : Val), (⟨2, 2⟩ : Val)] : List (Val))).2) (q := 0) rfl rfl) ?_
  refine wl_ok (r_move (v := (.bool (decide (((reach ringL ([(⟨0, 0⟩ : Val), (⟨2, 2⟩ : Val)] : List (Val))).2 : Int) = 0)))) rfl) ?_
  have a218 : ((reach ringL ([(⟨0, 0⟩ : Val), (⟨2, 2⟩ : Val)] : List (Val))).2 : Int) = 0 := (by decide)
  have qa218 : Value.bool (decide (((reach ringL ([(⟨0, 0⟩ : Val), (⟨2, 2⟩ : Val)] : List (Val))).2 : Int) = 0)) = Value.bool true := by rw [decide_eq_true a218]
  refine wl_on rfl qa218 ?_
  refine wl_ok (r_move (v := v216) rfl) ?_
  refine wl_on rfl qa218 ?_
  refine wl_buildSlice (R := rInt) (M := M) (vs := [(.int .i64 (2)), (.int .i64 (1))]) (xs := [2, 1]) ElemOf24 rfl rfl rfl ⟨⟨rfl, (by omega)⟩, ⟨rfl, (by omega)⟩, trivial⟩ hL (by decide) ?_
  intro w219 v220 k221 ov220 uv220
  have z222 : ∀ x ∈ ob v220, w.heap.size ≤ x := fresh_new hG.size rfl uv220
  replace ov208 := ov208.go (k221.weaken (fun _ h => absurd h List.not_mem_nil)) (fun _ h _ => h)
  replace ov211 := ov211.go (k221.weaken (fun _ h => absurd h List.not_mem_nil)) (fun _ h _ => h)
  replace ov216 := ov216.go (k221.weaken (fun _ h => absurd h List.not_mem_nil)) (fun _ h _ => h)
  replace hG := hG.grow k221
  replace hL := hL.grow k221
  refine wl_on rfl qa218 ?_
  refine wl_call (args := [v216, v220]) fnOk14 rfl rfl (equal_calls [] _ (fun x hx => absurd hx List.not_mem_nil) v216 v220 (reach ringL ([(⟨0, 0⟩ : Val), (⟨2, 2⟩ : Val)] : List (Val))).1 ([2, 1] : List (Int)) ov216.rd.bare ov220.rd.bare) ?_
  rintro _ w223 ⟨rfl, k224⟩
  refine ⟨_, rfl, ?_⟩
  replace ov208 := ov208.go (k224.weaken (fun _ h => absurd h List.not_mem_nil)) (fun _ h _ => h)
  replace ov211 := ov211.go (k224.weaken (fun _ h => absurd h List.not_mem_nil)) (fun _ h _ => h)
  replace ov216 := ov216.go (k224.weaken (fun _ h => absurd h List.not_mem_nil)) (fun _ h _ => h)
  replace ov220 := ov220.go (k224.weaken (fun _ h => absurd h List.not_mem_nil)) (fun _ h _ => h)
  replace hG := hG.grow k224
  replace hL := hL.grow k224
  refine wl_ok (r_pick (b := true) (v := (.bool (eqInts (reach ringL ([(⟨0, 0⟩ : Val), (⟨2, 2⟩ : Val)] : List (Val))).1 ([2, 1] : List (Int))))) qa218 rfl) ?_
  refine wl_ok (r_move (v := (.bool (eqInts (reach ringL ([(⟨0, 0⟩ : Val), (⟨2, 2⟩ : Val)] : List (Val))).1 ([2, 1] : List (Int))))) rfl) ?_
  have q225 : Value.bool (eqInts (reach ringL ([(⟨0, 0⟩ : Val), (⟨2, 2⟩ : Val)] : List (Val))).1 ([2, 1] : List (Int))) = Value.bool true := by rw [show (eqInts (reach ringL ([(⟨0, 0⟩ : Val), (⟨2, 2⟩ : Val)] : List (Val))).1 ([2, 1] : List (Int))) = true from (by decide)]
  refine wl_on rfl q225 ?_
  refine wl_call (args := []) fnOk62 rfl rfl (ring_calls M _ hL ) ?_
  rintro _ w226 ⟨v228, rfl, ov228, fv228, k227⟩
  refine ⟨_, rfl, ?_⟩
  have z229 : ∀ x ∈ ob v228, w.heap.size ≤ x := fun x hx => Nat.le_trans hG.size (fv228 x hx)
  replace ov208 := ov208.go (k227.weaken (fun _ h => absurd h List.not_mem_nil)) (fun _ h _ => h)
  replace ov211 := ov211.go (k227.weaken (fun _ h => absurd h List.not_mem_nil)) (fun _ h _ => h)
  replace ov216 := ov216.go (k227.weaken (fun _ h => absurd h List.not_mem_nil)) (fun _ h _ => h)
  replace ov220 := ov220.go (k227.weaken (fun _ h => absurd h List.not_mem_nil)) (fun _ h _ => h)
  replace hG := hG.grow k227
  replace hL := hL.grow k227
  refine wl_on rfl q225 ?_
  refine wl_slice (a := 0) (b := 2) SliceOf27 rfl rfl ov228.rd (.inl ⟨rfl, rfl⟩) (.inr rfl) (by decide) (by decide) ?_
  intro v230 sv230
  refine wl_on rfl q225 ?_
  refine wl_call (args := [v230]) fnOk31 rfl rfl (checkAll_calls [] _ (fun x hx => absurd hx List.not_mem_nil) v230 ((ringL.take 2).drop 0) sv230.bare) ?_
  rintro _ w231 ⟨rfl, k232⟩
  refine ⟨_, rfl, ?_⟩
  replace sv230 := sv230.go (k232.weaken (fun _ h => absurd h List.not_mem_nil)) (fun _ h _ => h)
  replace ov208 := ov208.go (k232.weaken (fun _ h => absurd h List.not_mem_nil)) (fun _ h _ => h)
  replace ov211 := ov211.go (k232.weaken (fun _ h => absurd h List.not_mem_nil)) (fun _ h _ => h)
  replace ov216 := ov216.go (k232.weaken (fun _ h => absurd h List.not_mem_nil)) (fun _ h _ => h)
  replace ov220 := ov220.go (k232.weaken (fun _ h => absurd h List.not_mem_nil)) (fun _ h _ => h)
  replace ov228 := ov228.go (k232.weaken (fun _ h => absurd h List.not_mem_nil)) (fun _ h _ => h)
  replace hG := hG.grow k232
  replace hL := hL.grow k232
  refine wl_on rfl q225 ?_
  refine wl_ok (r_eql (p := checkAll ((ringL.take 2).drop 0)) (q := 5) rfl rfl) ?_
  refine wl_ok (r_pick (b := true) (v := (.bool (decide ((checkAll ((ringL.take 2).drop 0) : Int) = 5)))) q225 rfl) ?_
  refine wl_ok (r_assign (v := (.bool (decide ((checkAll ((ringL.take 2).drop 0) : Int) = 5)))) rfl) ?_
  refine wl_nil ?_
  refine then_normal ?_
  refine wc_ret ?_
  refine fin1 (v := (.bool (decide ((checkAll ((ringL.take 2).drop 0) : Int) = 5)))) Try.results16 rfl ?_
  have a233 : (checkAll ((ringL.take 2).drop 0) : Int) = 5 := (by decide)
  have qa233 : Value.bool (decide ((checkAll ((ringL.take 2).drop 0) : Int) = 5)) = Value.bool true := by rw [decide_eq_true a233]
  exact ⟨congrArg Ending.returned qa233, hG⟩

end Go.Proofs.Ytkjajililnbimaa
