import Derived.Test.YtkjajililnbimaaWalkC

set_option linter.unusedSimpArgs false
set_option linter.unusedVariables false
namespace Go.Proofs.Ytkjajililnbimaa
open Go Go.Proofs Go.WX
theorem fnOk30 : FnOk Try.prog 30 := ⟨_, Try.func30, by kernel_rfl, rfl⟩
theorem fnOk37 : FnOk Try.prog 37 := ⟨_, Try.func37, by kernel_rfl, rfl⟩
theorem fnOk64 : FnOk Try.prog 64 := ⟨_, Try.func64, by kernel_rfl, rfl⟩
theorem fnOk68 : FnOk Try.prog 68 := ⟨_, Try.func68, by kernel_rfl, rfl⟩
theorem fnOk69 : FnOk Try.prog 69 := ⟨_, Try.func69, by kernel_rfl, rfl⟩
theorem fnOk70 : FnOk Try.prog 70 := ⟨_, Try.func70, by kernel_rfl, rfl⟩
theorem fnOk71 : FnOk Try.prog 71 := ⟨_, Try.func71, by kernel_rfl, rfl⟩
theorem fnOk72 : FnOk Try.prog 72 := ⟨_, Try.func72, by kernel_rfl, rfl⟩
theorem fnOk74 : FnOk Try.prog 74 := ⟨_, Try.func74, by kernel_rfl, rfl⟩
theorem PairI34 : PairI Try.prog 34 := ⟨⟨_, _, Try.underlying34, by decide, by decide, rfl, rfl, Try.underlying3, Try.underlying3, by kernel_rfl, by kernel_rfl⟩, by kernel_rfl, by kernel_rfl⟩
theorem in_calls (M : List Nat) (w : World) (hL : LtM M w) (x a b : Int) : Calls Try.prog 64 #[.int .i64 x, .int .i64 a, .int .i64 b] w
    (fun e w' => e = .returned (.bool (decide (a ≤ x ∧ x ≤ b))) ∧ Grow w w') := by
  refine calls_start (args := [(.int .i64 (x)), (.int .i64 (a)), (.int .i64 (b))]) Try.func64 rfl Try.ntmps64 (Nat.le_of_ble_eq_true rfl) ?_
  have hG : Grow w w := Keep.refl _ _
  refine wc_seq ?_
  refine wc_region ?_
  refine wl_ok (r_assign (v := (.bool false)) rfl) ?_
  refine wl_nil ?_
  refine then_normal ?_
  refine wc_seq ?_
  refine wc_region ?_
  refine wl_ok (r_move (v := (.int .i64 (a))) rfl) ?_
  refine wl_ok (r_move (v := (.int .i64 (x))) rfl) ?_
  refine wl_ok (r_leq (p := a) (q := x) rfl rfl) ?_
  refine wl_ok (r_move (v := (.bool (decide ((a : Int) ≤ x)))) rfl) ?_
  refine (Decidable.em ((a : Int) ≤ x)).elim (fun h313 => ?_) (fun h313 => ?_)
  · skip
    have qh313 : Value.bool (decide ((a : Int) ≤ x)) = Value.bool true := by rw [decide_eq_true h313]
    refine wl_on rfl qh313 ?_
    refine wl_ok (r_move (v := (.int .i64 (x))) rfl) ?_
    refine wl_on rfl qh313 ?_
    refine wl_ok (r_move (v := (.int .i64 (b))) rfl) ?_
    refine wl_on rfl qh313 ?_
    refine wl_ok (r_leq (p := x) (q := b) rfl rfl) ?_
    refine wl_ok (r_pick (b := true) (v := (.bool (decide ((x : Int) ≤ b)))) qh313 rfl) ?_
    refine wl_ok (r_assign (v := (.bool (decide ((x : Int) ≤ b)))) rfl) ?_
    refine wl_nil ?_
    refine then_normal ?_
    refine wc_ret ?_
    refine fin1 (v := (.bool (decide ((x : Int) ≤ b)))) Try.results64 rfl ?_
    exact ⟨ret_bool (decide_eq_decide.2 (by omega)), hG⟩
  · skip
    have qh313 : Value.bool (decide ((a : Int) ≤ x)) = Value.bool false := by rw [decide_eq_false h313]
    refine wl_off (b' := false) rfl qh313 rfl ?_
    refine wl_off (b' := false) rfl qh313 rfl ?_
    refine wl_off (b' := false) rfl qh313 rfl ?_
    refine wl_ok (r_pick (b := false) (v := (.bool false)) qh313 rfl) ?_
    refine wl_ok (r_assign (v := (.bool false)) rfl) ?_
    refine wl_nil ?_
    refine then_normal ?_
    refine wc_ret ?_
    refine fin1 (v := (.bool false)) Try.results64 rfl ?_
    exact ⟨ret_bool (decide_eq_false (by omega)).symm, hG⟩

theorem fits_calls (M : List Nat) (w : World) (hL : LtM M w) (x : Int) : Calls Try.prog 68 #[.int .i64 x] w
    (fun e w' => e = .returned (.bool (decide (-1000000000 ≤ x ∧ x ≤ 1000000000))) ∧ Grow w w') := by
  refine calls_start (args := [(.int .i64 (x))]) Try.func68 rfl Try.ntmps68 (Nat.le_of_ble_eq_true rfl) ?_
  have hG : Grow w w := Keep.refl _ _
  refine wc_seq ?_
  refine wc_region ?_
  refine wl_ok (r_assign (v := (.bool false)) rfl) ?_
  refine wl_nil ?_
  refine then_normal ?_
  refine wc_seq ?_
  refine wc_region ?_
  refine wl_ok (r_move (v := (.int .i64 (x))) rfl) ?_
  refine wl_call (args := [(.int .i64 (x)), (.int .i64 (-1000000000)), (.int .i64 (1000000000))]) fnOk64 rfl rfl (in_calls [] _ (fun x hx => absurd hx List.not_mem_nil) (x : Int) (-1000000000 : Int) (1000000000 : Int)) ?_
  rintro _ w314 ⟨rfl, k315⟩
  refine ⟨_, rfl, ?_⟩
  replace hG := hG.grow k315
  replace hL := hL.grow k315
  refine wl_ok (r_assign (v := (.bool (decide ((-1000000000 : Int) ≤ (x : Int) ∧ (x : Int) ≤ (1000000000 : Int))))) rfl) ?_
  refine wl_nil ?_
  refine then_normal ?_
  refine wc_ret ?_
  refine fin1 (v := (.bool (decide ((-1000000000 : Int) ≤ (x : Int) ∧ (x : Int) ≤ (1000000000 : Int))))) Try.results68 rfl ?_
  exact ⟨ret_bool (decide_eq_decide.2 (by omega)), hG⟩

theorem below_calls (M : List Nat) (w : World) (hL : LtM M w) (x n : Int) : Calls Try.prog 69 #[.int .i64 x, .int .i64 n] w
    (fun e w' => e = .returned (.bool (decide (0 ≤ x ∧ x < n))) ∧ Grow w w') := by
  refine calls_start (args := [(.int .i64 (x)), (.int .i64 (n))]) Try.func69 rfl Try.ntmps69 (Nat.le_of_ble_eq_true rfl) ?_
  have hG : Grow w w := Keep.refl _ _
  refine wc_seq ?_
  refine wc_region ?_
  refine wl_ok (r_assign (v := (.bool false)) rfl) ?_
  refine wl_nil ?_
  refine then_normal ?_
  refine wc_seq ?_
  refine wc_region ?_
  refine wl_ok (r_move (v := (.int .i64 (x))) rfl) ?_
  refine wl_ok (r_geq (p := x) (q := 0) rfl rfl) ?_
  refine wl_ok (r_move (v := (.bool (decide ((0 : Int) ≤ x)))) rfl) ?_
  refine (Decidable.em ((0 : Int) ≤ x)).elim (fun h316 => ?_) (fun h316 => ?_)
  · skip
    have qh316 : Value.bool (decide ((0 : Int) ≤ x)) = Value.bool true := by rw [decide_eq_true h316]
    refine wl_on rfl qh316 ?_
    refine wl_ok (r_move (v := (.int .i64 (x))) rfl) ?_
    refine wl_on rfl qh316 ?_
    refine wl_ok (r_move (v := (.int .i64 (n))) rfl) ?_
    refine wl_on rfl qh316 ?_
    refine wl_ok (r_lss (p := x) (q := n) rfl rfl) ?_
    refine wl_ok (r_pick (b := true) (v := (.bool (decide ((x : Int) < n)))) qh316 rfl) ?_
    refine wl_ok (r_assign (v := (.bool (decide ((x : Int) < n)))) rfl) ?_
    refine wl_nil ?_
    refine then_normal ?_
    refine wc_ret ?_
    refine fin1 (v := (.bool (decide ((x : Int) < n)))) Try.results69 rfl ?_
    exact ⟨ret_bool (decide_eq_decide.2 (by omega)), hG⟩
  · skip
    have qh316 : Value.bool (decide ((0 : Int) ≤ x)) = Value.bool false := by rw [decide_eq_false h316]
    refine wl_off (b' := false) rfl qh316 rfl ?_
    refine wl_off (b' := false) rfl qh316 rfl ?_
    refine wl_off (b' := false) rfl qh316 rfl ?_
    refine wl_ok (r_pick (b := false) (v := (.bool false)) qh316 rfl) ?_
    refine wl_ok (r_assign (v := (.bool false)) rfl) ?_
    refine wl_nil ?_
    refine then_normal ?_
    refine wc_ret ?_
    refine fin1 (v := (.bool false)) Try.results69 rfl ?_
    exact ⟨ret_bool (decide_eq_false (by omega)).symm, hG⟩

theorem refCheck_calls (M : List Nat) (w : World) (hL : LtM M w) (k m c : Int) : Calls Try.prog 30 #[.agg #[.int .i64 k, .int .i64 m], .int .i64 c] w
    (fun e w' => e = .returned (.int .i64 (cellCheck k m c)) ∧ Grow w w') := by
  refine calls_start (args := [(.agg #[(.int .i64 (k)), (.int .i64 (m))]), (.int .i64 (c))]) Try.func30 rfl Try.ntmps30 (Nat.le_of_ble_eq_true rfl) ?_
  have hG : Grow w w := Keep.refl _ _
  refine wc_seq ?_
  refine wc_region ?_
  refine wl_box (cs := [(.int .i64 (k)), (.int .i64 (m))]) rfl ?_
  intro w317 b318 eb318 kb318 Bb318
  have lb318 : w.heap.size ≤ b318 := by have := hG.size; omega
  replace hG := hG.grow kb318
  replace hL := hL.grow kb318
  replace hL := hL.cons Bb318.lt
  refine wl_ok (r_assign (v := (.int .i64 (0))) rfl) ?_
  refine wl_nil ?_
  refine then_normal ?_
  refine wc_seq ?_
  refine wc_block ?_
  refine wc_seq ?_
  refine wc_seq ?_
  refine wc_region ?_
  refine wl_ok (r_fieldAddr (b := b318) (o := 0) Fld34x0 rfl) ?_
  refine wl_ok (r_loadB1 (b := b318) (o := 0) (v := (.int .i64 (k))) One3 rfl Bb318 rfl) ?_
  refine wl_call (args := [(.int .i64 (k)), (.int .i64 (0)), (.int .i64 (2))]) fnOk64 rfl rfl (in_calls [] _ (fun x hx => absurd hx List.not_mem_nil) (k : Int) (0 : Int) (2 : Int)) ?_
  rintro _ w319 ⟨rfl, k320⟩
  refine ⟨_, rfl, ?_⟩
  replace Bb318 := Bb318.grow k320
  replace hG := hG.grow k320
  replace hL := hL.grow k320
  refine wl_ok (r_notd (p := (0 : Int) ≤ (k : Int) ∧ (k : Int) ≤ (2 : Int)) rfl) ?_
  refine wl_ok (r_assign (v := (.bool (decide (¬ ((0 : Int) ≤ (k : Int) ∧ (k : Int) ≤ (2 : Int)))))) rfl) ?_
  refine wl_nil ?_
  refine then_normal ?_
  refine wc_ifd (p := ¬ ((0 : Int) ≤ (k : Int) ∧ (k : Int) ≤ (2 : Int))) rfl (fun h321 => ?_) (fun h321 => ?_)
  · skip
    have qh321 : Value.bool (decide (¬ ((0 : Int) ≤ (k : Int) ∧ (k : Int) ≤ (2 : Int)))) = Value.bool true := by rw [decide_eq_true h321]
    have h321i := h321
    have qh321i : Value.bool (decide ((0 : Int) ≤ (k : Int) ∧ (k : Int) ≤ (2 : Int))) = Value.bool false := by rw [decide_eq_false h321i]
    refine wc_skip ?_
    refine then_normal ?_
    refine wc_ift qh321 ?_
    refine wc_seq ?_
    refine wc_region ?_
    refine wl_ok (r_assign (v := (.int .i64 (4))) rfl) ?_
    refine wl_nil ?_
    refine then_normal ?_
    refine wc_ret ?_
    refine inBlock_ret ?_
    refine then_ret ?_
    refine fin1 (v := (.int .i64 (4))) Try.results30 rfl ?_
    exact ⟨ret_int (by unfold cellCheck; (repeat' split) <;> omega), hG⟩
  · skip
    have qh321 : Value.bool (decide (¬ ((0 : Int) ≤ (k : Int) ∧ (k : Int) ≤ (2 : Int)))) = Value.bool false := by rw [decide_eq_false h321]
    replace h321 := Decidable.not_not.1 h321
    have h321i := h321
    have qh321i : Value.bool (decide ((0 : Int) ≤ (k : Int) ∧ (k : Int) ≤ (2 : Int))) = Value.bool true := by rw [decide_eq_true h321i]
    refine wc_region ?_
    refine wl_ok (r_fieldAddr (b := b318) (o := 0) Fld34x0 rfl) ?_
    refine wl_ok (r_loadB1 (b := b318) (o := 0) (v := (.int .i64 (k))) One3 rfl Bb318 rfl) ?_
    refine wl_ok (r_eql (p := k) (q := 0) rfl rfl) ?_
    refine wl_ok (r_move (v := (.bool (decide ((k : Int) = 0)))) rfl) ?_
    refine (Decidable.em ((k : Int) = 0)).elim (fun h322 => ?_) (fun h322 => ?_)
    · skip
      have qh322 : Value.bool (decide ((k : Int) = 0)) = Value.bool true := by rw [decide_eq_true h322]
      refine wl_on rfl qh322 ?_
      refine wl_ok (r_fieldAddr (b := b318) (o := 0) Fld34x1 rfl) ?_
      refine wl_on rfl qh322 ?_
      refine wl_ok (r_loadB1 (b := b318) (o := 1) (v := (.int .i64 (m))) One3 rfl Bb318 rfl) ?_
      refine wl_on rfl qh322 ?_
      refine wl_ok (r_neq (p := m) (q := 0) rfl rfl) ?_
      refine wl_ok (r_pick (b := true) (v := (.bool (decide ((m : Int) ≠ 0)))) qh322 rfl) ?_
      refine wl_ok (r_assign (v := (.bool (decide ((m : Int) ≠ 0)))) rfl) ?_
      refine wl_nil ?_
      refine then_normal ?_
      refine wc_ifd (p := (m : Int) ≠ 0) rfl (fun h323 => ?_) (fun h323 => ?_)
      · skip
        have qh323 : Value.bool (decide ((m : Int) ≠ 0)) = Value.bool true := by rw [decide_eq_true h323]
        refine wc_seq ?_
        refine wc_region ?_
        refine wl_ok (r_assign (v := (.int .i64 (4))) rfl) ?_
        refine wl_nil ?_
        refine then_normal ?_
        refine wc_ret ?_
        refine inBlock_ret ?_
        refine then_ret ?_
        refine fin1 (v := (.int .i64 (4))) Try.results30 rfl ?_
        exact ⟨ret_int (by unfold cellCheck; (repeat' split) <;> omega), hG⟩
      · skip
        have qh323 : Value.bool (decide ((m : Int) ≠ 0)) = Value.bool false := by rw [decide_eq_false h323]
        replace h323 := Decidable.not_not.1 h323
        refine wc_seq ?_
        refine wc_region ?_
        refine wl_ok (r_fieldAddr (b := b318) (o := 0) Fld34x0 rfl) ?_
        refine wl_ok (r_loadB1 (b := b318) (o := 0) (v := (.int .i64 (k))) One3 rfl Bb318 rfl) ?_
        refine wl_ok (r_eql (p := k) (q := 1) rfl rfl) ?_
        refine wl_ok (r_move (v := (.bool (decide ((k : Int) = 1)))) rfl) ?_
        refine (Decidable.em ((k : Int) = 1)).elim (fun h324 => ?_) (fun h324 => ?_)
        · skip
          have qh324 : Value.bool (decide ((k : Int) = 1)) = Value.bool true := by rw [decide_eq_true h324]
          refine wl_on rfl qh324 ?_
          refine wl_ok (r_fieldAddr (b := b318) (o := 0) Fld34x1 rfl) ?_
          refine wl_on rfl qh324 ?_
          refine wl_ok (r_loadB1 (b := b318) (o := 1) (v := (.int .i64 (m))) One3 rfl Bb318 rfl) ?_
          refine wl_on rfl qh324 ?_
          refine wl_call (args := [(.int .i64 (m))]) fnOk68 rfl rfl (fits_calls [] _ (fun x hx => absurd hx List.not_mem_nil) (m : Int)) ?_
          rintro _ w325 ⟨rfl, k326⟩
          refine ⟨_, rfl, ?_⟩
          replace Bb318 := Bb318.grow k326
          replace hG := hG.grow k326
          replace hL := hL.grow k326
          refine wl_on rfl qh324 ?_
          refine wl_ok (r_notd (p := -1000000000 ≤ (m : Int) ∧ (m : Int) ≤ 1000000000) rfl) ?_
          refine wl_ok (r_pick (b := true) (v := (.bool (decide (¬ (-1000000000 ≤ (m : Int) ∧ (m : Int) ≤ 1000000000))))) qh324 rfl) ?_
          refine wl_ok (r_assign (v := (.bool (decide (¬ (-1000000000 ≤ (m : Int) ∧ (m : Int) ≤ 1000000000))))) rfl) ?_
          refine wl_nil ?_
          refine then_normal ?_
          refine wc_ifd (p := ¬ (-1000000000 ≤ (m : Int) ∧ (m : Int) ≤ 1000000000)) rfl (fun h327 => ?_) (fun h327 => ?_)
          · skip
            have qh327 : Value.bool (decide (¬ (-1000000000 ≤ (m : Int) ∧ (m : Int) ≤ 1000000000))) = Value.bool true := by rw [decide_eq_true h327]
            have h327i := h327
            have qh327i : Value.bool (decide (-1000000000 ≤ (m : Int) ∧ (m : Int) ≤ 1000000000)) = Value.bool false := by rw [decide_eq_false h327i]
            refine wc_seq ?_
            refine wc_region ?_
            refine wl_ok (r_assign (v := (.int .i64 (3))) rfl) ?_
            refine wl_nil ?_
            refine then_normal ?_
            refine wc_ret ?_
            refine inBlock_ret ?_
            refine then_ret ?_
            refine fin1 (v := (.int .i64 (3))) Try.results30 rfl ?_
            exact ⟨ret_int (by unfold cellCheck; (repeat' split) <;> omega), hG⟩
          · skip
            have qh327 : Value.bool (decide (¬ (-1000000000 ≤ (m : Int) ∧ (m : Int) ≤ 1000000000))) = Value.bool false := by rw [decide_eq_false h327]
            replace h327 := Decidable.not_not.1 h327
            have h327i := h327
            have qh327i : Value.bool (decide (-1000000000 ≤ (m : Int) ∧ (m : Int) ≤ 1000000000)) = Value.bool true := by rw [decide_eq_true h327i]
            refine wc_seq ?_
            refine wc_region ?_
            refine wl_ok (r_fieldAddr (b := b318) (o := 0) Fld34x0 rfl) ?_
            refine wl_ok (r_loadB1 (b := b318) (o := 0) (v := (.int .i64 (k))) One3 rfl Bb318 rfl) ?_
            refine wl_ok (r_eql (p := k) (q := 2) rfl rfl) ?_
            refine wl_ok (r_move (v := (.bool (decide ((k : Int) = 2)))) rfl) ?_
            refine (Decidable.em ((k : Int) = 2)).elim (fun h328 => ?_) (fun h328 => ?_)
            · skip
              have qh328 : Value.bool (decide ((k : Int) = 2)) = Value.bool true := by rw [decide_eq_true h328]
              refine wl_on rfl qh328 ?_
              refine wl_ok (r_fieldAddr (b := b318) (o := 0) Fld34x1 rfl) ?_
              refine wl_on rfl qh328 ?_
              refine wl_ok (r_loadB1 (b := b318) (o := 1) (v := (.int .i64 (m))) One3 rfl Bb318 rfl) ?_
              refine wl_on rfl qh328 ?_
              refine wl_ok (r_move (v := (.int .i64 (c))) rfl) ?_
              refine wl_on rfl qh328 ?_
              refine wl_call (args := [(.int .i64 (m)), (.int .i64 (c))]) fnOk69 rfl rfl (below_calls [] _ (fun x hx => absurd hx List.not_mem_nil) (m : Int) (c : Int)) ?_
              rintro _ w329 ⟨rfl, k330⟩
              refine ⟨_, rfl, ?_⟩
              replace Bb318 := Bb318.grow k330
              replace hG := hG.grow k330
              replace hL := hL.grow k330
              refine wl_on rfl qh328 ?_
              refine wl_ok (r_notd (p := 0 ≤ (m : Int) ∧ (m : Int) < (c : Int)) rfl) ?_
              refine wl_ok (r_pick (b := true) (v := (.bool (decide (¬ (0 ≤ (m : Int) ∧ (m : Int) < (c : Int)))))) qh328 rfl) ?_
              refine wl_ok (r_assign (v := (.bool (decide (¬ (0 ≤ (m : Int) ∧ (m : Int) < (c : Int)))))) rfl) ?_
              refine wl_nil ?_
              refine then_normal ?_
              refine wc_ifd (p := ¬ (0 ≤ (m : Int) ∧ (m : Int) < (c : Int))) rfl (fun h331 => ?_) (fun h331 => ?_)
              · skip
                have qh331 : Value.bool (decide (¬ (0 ≤ (m : Int) ∧ (m : Int) < (c : Int)))) = Value.bool true := by rw [decide_eq_true h331]
                have h331i := h331
                have qh331i : Value.bool (decide (0 ≤ (m : Int) ∧ (m : Int) < (c : Int))) = Value.bool false := by rw [decide_eq_false h331i]
                refine wc_seq ?_
                refine wc_region ?_
                refine wl_ok (r_assign (v := (.int .i64 (5))) rfl) ?_
                refine wl_nil ?_
                refine then_normal ?_
                refine wc_ret ?_
                refine inBlock_ret ?_
                refine then_ret ?_
                refine fin1 (v := (.int .i64 (5))) Try.results30 rfl ?_
                exact ⟨ret_int (by unfold cellCheck; (repeat' split) <;> omega), hG⟩
              · skip
                have qh331 : Value.bool (decide (¬ (0 ≤ (m : Int) ∧ (m : Int) < (c : Int)))) = Value.bool false := by rw [decide_eq_false h331]
                replace h331 := Decidable.not_not.1 h331
                have h331i := h331
                have qh331i : Value.bool (decide (0 ≤ (m : Int) ∧ (m : Int) < (c : Int))) = Value.bool true := by rw [decide_eq_true h331i]
                refine wc_skip ?_
                refine inBlock_normal ?_
                refine then_normal ?_
                refine wc_seq ?_
                refine wc_region ?_
                refine wl_ok (r_assign (v := (.int .i64 (0))) rfl) ?_
                refine wl_nil ?_
                refine then_normal ?_
                refine wc_ret ?_
                refine fin1 (v := (.int .i64 (0))) Try.results30 rfl ?_
                exact ⟨ret_int (by unfold cellCheck; (repeat' split) <;> omega), hG⟩
            · skip
              have qh328 : Value.bool (decide ((k : Int) = 2)) = Value.bool false := by rw [decide_eq_false h328]
              refine wl_off (b' := false) rfl qh328 rfl ?_
              refine wl_off (b' := false) rfl qh328 rfl ?_
              refine wl_off (b' := false) rfl qh328 rfl ?_
              refine wl_off (b' := false) rfl qh328 rfl ?_
              refine wl_off (b' := false) rfl qh328 rfl ?_
              refine wl_ok (r_pick (b := false) (v := (.bool false)) qh328 rfl) ?_
              refine wl_ok (r_assign (v := (.bool false)) rfl) ?_
              refine wl_nil ?_
              refine then_normal ?_
              refine wc_iff rfl ?_
              refine wc_skip ?_
              refine inBlock_normal ?_
              refine then_normal ?_
              refine wc_seq ?_
              refine wc_region ?_
              refine wl_ok (r_assign (v := (.int .i64 (0))) rfl) ?_
              refine wl_nil ?_
              refine then_normal ?_
              refine wc_ret ?_
              refine fin1 (v := (.int .i64 (0))) Try.results30 rfl ?_
              exact ⟨ret_int (by unfold cellCheck; (repeat' split) <;> omega), hG⟩
        · skip
          have qh324 : Value.bool (decide ((k : Int) = 1)) = Value.bool false := by rw [decide_eq_false h324]
          refine wl_off (b' := false) rfl qh324 rfl ?_
          refine wl_off (b' := false) rfl qh324 rfl ?_
          refine wl_off (b' := false) rfl qh324 rfl ?_
          refine wl_off (b' := false) rfl qh324 rfl ?_
          refine wl_ok (r_pick (b := false) (v := (.bool false)) qh324 rfl) ?_
          refine wl_ok (r_assign (v := (.bool false)) rfl) ?_
          refine wl_nil ?_
          refine then_normal ?_
          refine wc_iff rfl ?_
          refine wc_seq ?_
          refine wc_region ?_
          refine wl_ok (r_fieldAddr (b := b318) (o := 0) Fld34x0 rfl) ?_
          refine wl_ok (r_loadB1 (b := b318) (o := 0) (v := (.int .i64 (k))) One3 rfl Bb318 rfl) ?_
          refine wl_ok (r_eql (p := k) (q := 2) rfl rfl) ?_
          refine wl_ok (r_move (v := (.bool (decide ((k : Int) = 2)))) rfl) ?_
          refine (Decidable.em ((k : Int) = 2)).elim (fun h332 => ?_) (fun h332 => ?_)
          · skip
            have qh332 : Value.bool (decide ((k : Int) = 2)) = Value.bool true := by rw [decide_eq_true h332]
            refine wl_on rfl qh332 ?_
            refine wl_ok (r_fieldAddr (b := b318) (o := 0) Fld34x1 rfl) ?_
            refine wl_on rfl qh332 ?_
            refine wl_ok (r_loadB1 (b := b318) (o := 1) (v := (.int .i64 (m))) One3 rfl Bb318 rfl) ?_
            refine wl_on rfl qh332 ?_
            refine wl_ok (r_move (v := (.int .i64 (c))) rfl) ?_
            refine wl_on rfl qh332 ?_
            refine wl_call (args := [(.int .i64 (m)), (.int .i64 (c))]) fnOk69 rfl rfl (below_calls [] _ (fun x hx => absurd hx List.not_mem_nil) (m : Int) (c : Int)) ?_
            rintro _ w333 ⟨rfl, k334⟩
            refine ⟨_, rfl, ?_⟩
            replace Bb318 := Bb318.grow k334
            replace hG := hG.grow k334
            replace hL := hL.grow k334
            refine wl_on rfl qh332 ?_
            refine wl_ok (r_notd (p := 0 ≤ (m : Int) ∧ (m : Int) < (c : Int)) rfl) ?_
            refine wl_ok (r_pick (b := true) (v := (.bool (decide (¬ (0 ≤ (m : Int) ∧ (m : Int) < (c : Int)))))) qh332 rfl) ?_
            refine wl_ok (r_assign (v := (.bool (decide (¬ (0 ≤ (m : Int) ∧ (m : Int) < (c : Int)))))) rfl) ?_
            refine wl_nil ?_
            refine then_normal ?_
            refine wc_ifd (p := ¬ (0 ≤ (m : Int) ∧ (m : Int) < (c : Int))) rfl (fun h335 => ?_) (fun h335 => ?_)
            · skip
              have qh335 : Value.bool (decide (¬ (0 ≤ (m : Int) ∧ (m : Int) < (c : Int)))) = Value.bool true := by rw [decide_eq_true h335]
              have h335i := h335
              have qh335i : Value.bool (decide (0 ≤ (m : Int) ∧ (m : Int) < (c : Int))) = Value.bool false := by rw [decide_eq_false h335i]
              refine wc_seq ?_
              refine wc_region ?_
              refine wl_ok (r_assign (v := (.int .i64 (5))) rfl) ?_
              refine wl_nil ?_
              refine then_normal ?_
              refine wc_ret ?_
              refine inBlock_ret ?_
              refine then_ret ?_
              refine fin1 (v := (.int .i64 (5))) Try.results30 rfl ?_
              exact ⟨ret_int (by unfold cellCheck; (repeat' split) <;> omega), hG⟩
            · skip
              have qh335 : Value.bool (decide (¬ (0 ≤ (m : Int) ∧ (m : Int) < (c : Int)))) = Value.bool false := by rw [decide_eq_false h335]
              replace h335 := Decidable.not_not.1 h335
              have h335i := h335
              have qh335i : Value.bool (decide (0 ≤ (m : Int) ∧ (m : Int) < (c : Int))) = Value.bool true := by rw [decide_eq_true h335i]
              refine wc_skip ?_
              refine inBlock_normal ?_
              refine then_normal ?_
              refine wc_seq ?_
              refine wc_region ?_
              refine wl_ok (r_assign (v := (.int .i64 (0))) rfl) ?_
              refine wl_nil ?_
              refine then_normal ?_
              refine wc_ret ?_
              refine fin1 (v := (.int .i64 (0))) Try.results30 rfl ?_
              exact ⟨ret_int (by unfold cellCheck; (repeat' split) <;> omega), hG⟩
          · skip
            have qh332 : Value.bool (decide ((k : Int) = 2)) = Value.bool false := by rw [decide_eq_false h332]
            refine wl_off (b' := false) rfl qh332 rfl ?_
            refine wl_off (b' := false) rfl qh332 rfl ?_
            refine wl_off (b' := false) rfl qh332 rfl ?_
            refine wl_off (b' := false) rfl qh332 rfl ?_
            refine wl_off (b' := false) rfl qh332 rfl ?_
            refine wl_ok (r_pick (b := false) (v := (.bool false)) qh332 rfl) ?_
            refine wl_ok (r_assign (v := (.bool false)) rfl) ?_
            refine wl_nil ?_
            refine then_normal ?_
            refine wc_iff rfl ?_
            refine wc_skip ?_
            refine inBlock_normal ?_
            refine then_normal ?_
            refine wc_seq ?_
            refine wc_region ?_
            refine wl_ok (r_assign (v := (.int .i64 (0))) rfl) ?_
            refine wl_nil ?_
            refine then_normal ?_
            refine wc_ret ?_
            refine fin1 (v := (.int .i64 (0))) Try.results30 rfl ?_
            exact ⟨ret_int (by unfold cellCheck; (repeat' split) <;> omega), hG⟩
    · skip
      have qh322 : Value.bool (decide ((k : Int) = 0)) = Value.bool false := by rw [decide_eq_false h322]
      refine wl_off (b' := false) rfl qh322 rfl ?_
      refine wl_off (b' := false) rfl qh322 rfl ?_
      refine wl_off (b' := false) rfl qh322 rfl ?_
      refine wl_ok (r_pick (b := false) (v := (.bool false)) qh322 rfl) ?_
      refine wl_ok (r_assign (v := (.bool false)) rfl) ?_
      refine wl_nil ?_
      refine then_normal ?_
      refine wc_iff rfl ?_
      refine wc_seq ?_
      refine wc_region ?_
      refine wl_ok (r_fieldAddr (b := b318) (o := 0) Fld34x0 rfl) ?_
      refine wl_ok (r_loadB1 (b := b318) (o := 0) (v := (.int .i64 (k))) One3 rfl Bb318 rfl) ?_
      refine wl_ok (r_eql (p := k) (q := 1) rfl rfl) ?_
      refine wl_ok (r_move (v := (.bool (decide ((k : Int) = 1)))) rfl) ?_
      refine (Decidable.em ((k : Int) = 1)).elim (fun h336 => ?_) (fun h336 => ?_)
      · skip
        have qh336 : Value.bool (decide ((k : Int) = 1)) = Value.bool true := by rw [decide_eq_true h336]
        refine wl_on rfl qh336 ?_
        refine wl_ok (r_fieldAddr (b := b318) (o := 0) Fld34x1 rfl) ?_
        refine wl_on rfl qh336 ?_
        refine wl_ok (r_loadB1 (b := b318) (o := 1) (v := (.int .i64 (m))) One3 rfl Bb318 rfl) ?_
        refine wl_on rfl qh336 ?_
        refine wl_call (args := [(.int .i64 (m))]) fnOk68 rfl rfl (fits_calls [] _ (fun x hx => absurd hx List.not_mem_nil) (m : Int)) ?_
        rintro _ w337 ⟨rfl, k338⟩
        refine ⟨_, rfl, ?_⟩
        replace Bb318 := Bb318.grow k338
        replace hG := hG.grow k338
        replace hL := hL.grow k338
        refine wl_on rfl qh336 ?_
        refine wl_ok (r_notd (p := -1000000000 ≤ (m : Int) ∧ (m : Int) ≤ 1000000000) rfl) ?_
        refine wl_ok (r_pick (b := true) (v := (.bool (decide (¬ (-1000000000 ≤ (m : Int) ∧ (m : Int) ≤ 1000000000))))) qh336 rfl) ?_
        refine wl_ok (r_assign (v := (.bool (decide (¬ (-1000000000 ≤ (m : Int) ∧ (m : Int) ≤ 1000000000))))) rfl) ?_
        refine wl_nil ?_
        refine then_normal ?_
        refine wc_ifd (p := ¬ (-1000000000 ≤ (m : Int) ∧ (m : Int) ≤ 1000000000)) rfl (fun h339 => ?_) (fun h339 => ?_)
        · skip
          have qh339 : Value.bool (decide (¬ (-1000000000 ≤ (m : Int) ∧ (m : Int) ≤ 1000000000))) = Value.bool true := by rw [decide_eq_true h339]
          have h339i := h339
          have qh339i : Value.bool (decide (-1000000000 ≤ (m : Int) ∧ (m : Int) ≤ 1000000000)) = Value.bool false := by rw [decide_eq_false h339i]
          refine wc_seq ?_
          refine wc_region ?_
          refine wl_ok (r_assign (v := (.int .i64 (3))) rfl) ?_
          refine wl_nil ?_
          refine then_normal ?_
          refine wc_ret ?_
          refine inBlock_ret ?_
          refine then_ret ?_
          refine fin1 (v := (.int .i64 (3))) Try.results30 rfl ?_
          exact ⟨ret_int (by unfold cellCheck; (repeat' split) <;> omega), hG⟩
        · skip
          have qh339 : Value.bool (decide (¬ (-1000000000 ≤ (m : Int) ∧ (m : Int) ≤ 1000000000))) = Value.bool false := by rw [decide_eq_false h339]
          replace h339 := Decidable.not_not.1 h339
          have h339i := h339
          have qh339i : Value.bool (decide (-1000000000 ≤ (m : Int) ∧ (m : Int) ≤ 1000000000)) = Value.bool true := by rw [decide_eq_true h339i]
          refine wc_seq ?_
          refine wc_region ?_
          refine wl_ok (r_fieldAddr (b := b318) (o := 0) Fld34x0 rfl) ?_
          refine wl_ok (r_loadB1 (b := b318) (o := 0) (v := (.int .i64 (k))) One3 rfl Bb318 rfl) ?_
          refine wl_ok (r_eql (p := k) (q := 2) rfl rfl) ?_
          refine wl_ok (r_move (v := (.bool (decide ((k : Int) = 2)))) rfl) ?_
          refine (Decidable.em ((k : Int) = 2)).elim (fun h340 => ?_) (fun h340 => ?_)
          · skip
            have qh340 : Value.bool (decide ((k : Int) = 2)) = Value.bool true := by rw [decide_eq_true h340]
            refine wl_on rfl qh340 ?_
            refine wl_ok (r_fieldAddr (b := b318) (o := 0) Fld34x1 rfl) ?_
            refine wl_on rfl qh340 ?_
            refine wl_ok (r_loadB1 (b := b318) (o := 1) (v := (.int .i64 (m))) One3 rfl Bb318 rfl) ?_
            refine wl_on rfl qh340 ?_
            refine wl_ok (r_move (v := (.int .i64 (c))) rfl) ?_
            refine wl_on rfl qh340 ?_
            refine wl_call (args := [(.int .i64 (m)), (.int .i64 (c))]) fnOk69 rfl rfl (below_calls [] _ (fun x hx => absurd hx List.not_mem_nil) (m : Int) (c : Int)) ?_
            rintro _ w341 ⟨rfl, k342⟩
            refine ⟨_, rfl, ?_⟩
            replace Bb318 := Bb318.grow k342
            replace hG := hG.grow k342
            replace hL := hL.grow k342
            refine wl_on rfl qh340 ?_
            refine wl_ok (r_notd (p := 0 ≤ (m : Int) ∧ (m : Int) < (c : Int)) rfl) ?_
            refine wl_ok (r_pick (b := true) (v := (.bool (decide (¬ (0 ≤ (m : Int) ∧ (m : Int) < (c : Int)))))) qh340 rfl) ?_
            refine wl_ok (r_assign (v := (.bool (decide (¬ (0 ≤ (m : Int) ∧ (m : Int) < (c : Int)))))) rfl) ?_
            refine wl_nil ?_
            refine then_normal ?_
            refine wc_ifd (p := ¬ (0 ≤ (m : Int) ∧ (m : Int) < (c : Int))) rfl (fun h343 => ?_) (fun h343 => ?_)
            · skip
              have qh343 : Value.bool (decide (¬ (0 ≤ (m : Int) ∧ (m : Int) < (c : Int)))) = Value.bool true := by rw [decide_eq_true h343]
              have h343i := h343
              have qh343i : Value.bool (decide (0 ≤ (m : Int) ∧ (m : Int) < (c : Int))) = Value.bool false := by rw [decide_eq_false h343i]
              refine wc_seq ?_
              refine wc_region ?_
              refine wl_ok (r_assign (v := (.int .i64 (5))) rfl) ?_
              refine wl_nil ?_
              refine then_normal ?_
              refine wc_ret ?_
              refine inBlock_ret ?_
              refine then_ret ?_
              refine fin1 (v := (.int .i64 (5))) Try.results30 rfl ?_
              exact ⟨ret_int (by unfold cellCheck; (repeat' split) <;> omega), hG⟩
            · skip
              have qh343 : Value.bool (decide (¬ (0 ≤ (m : Int) ∧ (m : Int) < (c : Int)))) = Value.bool false := by rw [decide_eq_false h343]
              replace h343 := Decidable.not_not.1 h343
              have h343i := h343
              have qh343i : Value.bool (decide (0 ≤ (m : Int) ∧ (m : Int) < (c : Int))) = Value.bool true := by rw [decide_eq_true h343i]
              refine wc_skip ?_
              refine inBlock_normal ?_
              refine then_normal ?_
              refine wc_seq ?_
              refine wc_region ?_
              refine wl_ok (r_assign (v := (.int .i64 (0))) rfl) ?_
              refine wl_nil ?_
              refine then_normal ?_
              refine wc_ret ?_
              refine fin1 (v := (.int .i64 (0))) Try.results30 rfl ?_
              exact ⟨ret_int (by unfold cellCheck; (repeat' split) <;> omega), hG⟩
          · skip
            have qh340 : Value.bool (decide ((k : Int) = 2)) = Value.bool false := by rw [decide_eq_false h340]
            refine wl_off (b' := false) rfl qh340 rfl ?_
            refine wl_off (b' := false) rfl qh340 rfl ?_
            refine wl_off (b' := false) rfl qh340 rfl ?_
            refine wl_off (b' := false) rfl qh340 rfl ?_
            refine wl_off (b' := false) rfl qh340 rfl ?_
            refine wl_ok (r_pick (b := false) (v := (.bool false)) qh340 rfl) ?_
            refine wl_ok (r_assign (v := (.bool false)) rfl) ?_
            refine wl_nil ?_
            refine then_normal ?_
            refine wc_iff rfl ?_
            refine wc_skip ?_
            refine inBlock_normal ?_
            refine then_normal ?_
            refine wc_seq ?_
            refine wc_region ?_
            refine wl_ok (r_assign (v := (.int .i64 (0))) rfl) ?_
            refine wl_nil ?_
            refine then_normal ?_
            refine wc_ret ?_
            refine fin1 (v := (.int .i64 (0))) Try.results30 rfl ?_
            exact ⟨ret_int (by unfold cellCheck; (repeat' split) <;> omega), hG⟩
      · skip
        have qh336 : Value.bool (decide ((k : Int) = 1)) = Value.bool false := by rw [decide_eq_false h336]
        refine wl_off (b' := false) rfl qh336 rfl ?_
        refine wl_off (b' := false) rfl qh336 rfl ?_
        refine wl_off (b' := false) rfl qh336 rfl ?_
        refine wl_off (b' := false) rfl qh336 rfl ?_
        refine wl_ok (r_pick (b := false) (v := (.bool false)) qh336 rfl) ?_
        refine wl_ok (r_assign (v := (.bool false)) rfl) ?_
        refine wl_nil ?_
        refine then_normal ?_
        refine wc_iff rfl ?_
        refine wc_seq ?_
        refine wc_region ?_
        refine wl_ok (r_fieldAddr (b := b318) (o := 0) Fld34x0 rfl) ?_
        refine wl_ok (r_loadB1 (b := b318) (o := 0) (v := (.int .i64 (k))) One3 rfl Bb318 rfl) ?_
        refine wl_ok (r_eql (p := k) (q := 2) rfl rfl) ?_
        refine wl_ok (r_move (v := (.bool (decide ((k : Int) = 2)))) rfl) ?_
        refine (Decidable.em ((k : Int) = 2)).elim (fun h344 => ?_) (fun h344 => ?_)
        · skip
          have qh344 : Value.bool (decide ((k : Int) = 2)) = Value.bool true := by rw [decide_eq_true h344]
          refine wl_on rfl qh344 ?_
          refine wl_ok (r_fieldAddr (b := b318) (o := 0) Fld34x1 rfl) ?_
          refine wl_on rfl qh344 ?_
          refine wl_ok (r_loadB1 (b := b318) (o := 1) (v := (.int .i64 (m))) One3 rfl Bb318 rfl) ?_
          refine wl_on rfl qh344 ?_
          refine wl_ok (r_move (v := (.int .i64 (c))) rfl) ?_
          refine wl_on rfl qh344 ?_
          refine wl_call (args := [(.int .i64 (m)), (.int .i64 (c))]) fnOk69 rfl rfl (below_calls [] _ (fun x hx => absurd hx List.not_mem_nil) (m : Int) (c : Int)) ?_
          rintro _ w345 ⟨rfl, k346⟩
          refine ⟨_, rfl, ?_⟩
          replace Bb318 := Bb318.grow k346
          replace hG := hG.grow k346
          replace hL := hL.grow k346
          refine wl_on rfl qh344 ?_
          refine wl_ok (r_notd (p := 0 ≤ (m : Int) ∧ (m : Int) < (c : Int)) rfl) ?_
          refine wl_ok (r_pick (b := true) (v := (.bool (decide (¬ (0 ≤ (m : Int) ∧ (m : Int) < (c : Int)))))) qh344 rfl) ?_
          refine wl_ok (r_assign (v := (.bool (decide (¬ (0 ≤ (m : Int) ∧ (m : Int) < (c : Int)))))) rfl) ?_
          refine wl_nil ?_
          refine then_normal ?_
          refine wc_ifd (p := ¬ (0 ≤ (m : Int) ∧ (m : Int) < (c : Int))) rfl (fun h347 => ?_) (fun h347 => ?_)
          · skip
            have qh347 : Value.bool (decide (¬ (0 ≤ (m : Int) ∧ (m : Int) < (c : Int)))) = Value.bool true := by rw [decide_eq_true h347]
            have h347i := h347
            have qh347i : Value.bool (decide (0 ≤ (m : Int) ∧ (m : Int) < (c : Int))) = Value.bool false := by rw [decide_eq_false h347i]
            refine wc_seq ?_
            refine wc_region ?_
            refine wl_ok (r_assign (v := (.int .i64 (5))) rfl) ?_
            refine wl_nil ?_
            refine then_normal ?_
            refine wc_ret ?_
            refine inBlock_ret ?_
            refine then_ret ?_
            refine fin1 (v := (.int .i64 (5))) Try.results30 rfl ?_
            exact ⟨ret_int (by unfold cellCheck; (repeat' split) <;> omega), hG⟩
          · skip
            have qh347 : Value.bool (decide (¬ (0 ≤ (m : Int) ∧ (m : Int) < (c : Int)))) = Value.bool false := by rw [decide_eq_false h347]
            replace h347 := Decidable.not_not.1 h347
            have h347i := h347
            have qh347i : Value.bool (decide (0 ≤ (m : Int) ∧ (m : Int) < (c : Int))) = Value.bool true := by rw [decide_eq_true h347i]
            refine wc_skip ?_
            refine inBlock_normal ?_
            refine then_normal ?_
            refine wc_seq ?_
            refine wc_region ?_
            refine wl_ok (r_assign (v := (.int .i64 (0))) rfl) ?_
            refine wl_nil ?_
            refine then_normal ?_
            refine wc_ret ?_
            refine fin1 (v := (.int .i64 (0))) Try.results30 rfl ?_
            exact ⟨ret_int (by unfold cellCheck; (repeat' split) <;> omega), hG⟩
        · skip
          have qh344 : Value.bool (decide ((k : Int) = 2)) = Value.bool false := by rw [decide_eq_false h344]
          refine wl_off (b' := false) rfl qh344 rfl ?_
          refine wl_off (b' := false) rfl qh344 rfl ?_
          refine wl_off (b' := false) rfl qh344 rfl ?_
          refine wl_off (b' := false) rfl qh344 rfl ?_
          refine wl_off (b' := false) rfl qh344 rfl ?_
          refine wl_ok (r_pick (b := false) (v := (.bool false)) qh344 rfl) ?_
          refine wl_ok (r_assign (v := (.bool false)) rfl) ?_
          refine wl_nil ?_
          refine then_normal ?_
          refine wc_iff rfl ?_
          refine wc_skip ?_
          refine inBlock_normal ?_
          refine then_normal ?_
          refine wc_seq ?_
          refine wc_region ?_
          refine wl_ok (r_assign (v := (.int .i64 (0))) rfl) ?_
          refine wl_nil ?_
          refine then_normal ?_
          refine wc_ret ?_
          refine fin1 (v := (.int .i64 (0))) Try.results30 rfl ?_
          exact ⟨ret_int (by unfold cellCheck; (repeat' split) <;> omega), hG⟩

def refRows (n : Int) : List (List Val) → Int
  | [] => 0
  | c :: r => if (1 : Int) ≤ (c.length : Int) ∧ (c.length : Int) ≤ 4 then (if checkVals n c ≠ 0 then checkVals n c else refRows n r) else 2
theorem refRows_eq (n : Int) : ∀ l, refRows n l = checkRows n l
  | [] => rfl
  | c :: r => by
    unfold refRows checkRows
    rw [refRows_eq n r]
    by_cases h1 : (c.length : Int) = 0
    · rw [if_neg (by omega), if_pos h1]
    · by_cases h2 : 4 < (c.length : Int)
      · rw [if_neg (by omega), if_neg h1, if_pos h2]
      · rw [if_pos (by omega), if_neg h1, if_neg h2]
def refAll (l : List (List Val)) : Int := if 24 < (l.length : Int) then 2 else refRows l.length l
theorem refAll_eq (l : List (List Val)) : refAll l = checkAll l := by unfold refAll checkAll; rw [refRows_eq]
theorem refAll0_calls (M : List Nat) (w : World) (hL : LtM M w) (v : Value) (l : List (List Val)) (hv : rSliceRd (rSlice rVal) w M v l) : Calls Try.prog 28 #[v] w
    (fun e w' => e = .returned (.int .i64 (refAll l)) ∧ Grow w w') := by
  refine calls_start (args := [v]) Try.func28 rfl Try.ntmps28 (Nat.le_of_ble_eq_true rfl) ?_
  have hG : Grow w w := Keep.refl _ _
  have hl := hv.len_le
  refine wc_seq ?_
  refine wc_region ?_
  refine wl_ok (r_assign (v := (.int .i64 (0))) rfl) ?_
  refine wl_nil ?_
  refine then_normal ?_
  refine wc_seq ?_
  refine wc_seq ?_
  refine wc_region ?_
  refine wl_ok (r_move (v := v) rfl) ?_
  refine wl_ok (r_len_rd (v := v) SliceOf27 rfl hv) ?_
  refine wl_ok (r_gtr (p := (l.length : Nat)) (q := 24) rfl rfl) ?_
  refine wl_nil ?_
  refine then_normal ?_
  refine wc_ifd (p := (24 : Int) < (l.length : Nat)) rfl (fun h348 => ?_) (fun h348 => ?_)
  · skip
    have qh348 : Value.bool (decide ((24 : Int) < (l.length : Nat))) = Value.bool true := by rw [decide_eq_true h348]
    refine wc_seq ?_
    refine wc_region ?_
    refine wl_ok (r_assign (v := (.int .i64 (2))) rfl) ?_
    refine wl_nil ?_
    refine then_normal ?_
    refine wc_ret ?_
    refine then_ret ?_
    refine fin1 (v := (.int .i64 (2))) Try.results28 rfl ?_
    exact ⟨ret_int (by simp only [refAll, eq_true h348, if_true, if_false, ne_eq, not_true_eq_false, not_false_eq_true, eq_self]), hG⟩
  · skip
    have qh348 : Value.bool (decide ((24 : Int) < (l.length : Nat))) = Value.bool false := by rw [decide_eq_false h348]
    refine wc_skip ?_
    refine then_normal ?_
    refine wc_seq ?_
    refine wc_seq ?_
    refine wc_region ?_
    refine wl_ok (r_move (v := v) rfl) ?_
    refine wl_ok (r_len_rd (v := v) SliceOf27 rfl hv) ?_
    refine wl_ok (r_move (v := (.int .i64 (0))) rfl) ?_
    refine wl_nil ?_
    refine then_normal ?_
    refine wc_block ?_
    refine wc_loop (inl [2, 4, 6, 7, 13, 14, 15, 16, 17, 18, 19, 20, 21, 22, 23, 24, 25, 26, 27, 28, 29, 30, 31, 32, 33, 34, 35]) (σ := Nat) (fun k => [(13, (.int .i64 ((k : Nat))))]) (fun k wr => Grow w wr ∧ LtM M wr ∧ rSliceRd (rSlice rVal) wr M v l ∧ k ≤ l.length ∧ refRows l.length (l.drop k) = refRows l.length l) (fun k => l.length - k) (0) ⟨rfl, trivial⟩ ?_ ?_
    · exact ⟨hG, hL, hv, Nat.zero_le _, rfl⟩
    · rintro k w349 j350 ⟨G351, L352, s353, lk, tk⟩
      refine wc_seq ?_
      refine wc_region ?_
      refine wl_ok (r_lss (p := (k : Nat)) (q := (l.length : Nat)) rfl rfl) ?_
      refine wl_nil ?_
      refine then_normal ?_
      refine wc_seq ?_
      refine wc_ifd (p := ((k : Nat) : Int) < (l.length : Nat)) rfl (fun h354 => ?_) (fun h354 => ?_)
      · skip
        have qh354 : Value.bool (decide (((k : Nat) : Int) < (l.length : Nat))) = Value.bool true := by rw [decide_eq_true h354]
        refine wc_skip ?_
        refine then_normal ?_
        refine wc_seq ?_
        refine wc_block ?_
        refine wc_seq ?_
        refine wc_region ?_
        refine wl_indexN (k := k) (v := v) SliceOf27 rfl rfl s353 rfl (by omega) ?_
        intro p355 cs356 xp355 gp355 hp355 rp355
        obtain ⟨vp355, rfl, sp355⟩ := rp355
        have zp355 := sp355.len_le
        refine wl_ok (r_loadP1 (p := p355) (v := vp355) One28 rfl hp355) ?_
        refine wl_ok (r_assign (v := vp355) rfl) ?_
        refine wl_nil ?_
        refine then_normal ?_
        refine wc_seq ?_
        refine wc_seq ?_
        refine wc_region ?_
        refine wl_ok (r_move (v := vp355) rfl) ?_
        refine wl_ok (r_len_rd (v := vp355) SliceOf28 rfl sp355) ?_
        refine wl_call (args := [(.int .i64 ((xp355.length : Nat))), (.int .i64 (1)), (.int .i64 (4))]) fnOk64 rfl rfl (in_calls [] _ (fun x hx => absurd hx List.not_mem_nil) ((xp355.length : Nat) : Int) (1 : Int) (4 : Int)) ?_
        rintro _ w357 ⟨rfl, k358⟩
        refine ⟨_, rfl, ?_⟩
        replace s353 := s353.go (k358.weaken (fun _ h => absurd h List.not_mem_nil)) (fun _ h _ => h)
        replace sp355 := sp355.go (k358.weaken (fun _ h => absurd h List.not_mem_nil)) (fun _ h _ => h)
        replace G351 := G351.grow k358
        replace L352 := L352.grow k358
        refine wl_ok (r_notd (p := (1 : Int) ≤ ((xp355.length : Nat) : Int) ∧ ((xp355.length : Nat) : Int) ≤ (4 : Int)) rfl) ?_
        refine wl_nil ?_
        refine then_normal ?_
        refine wc_ifd (p := ¬ ((1 : Int) ≤ ((xp355.length : Nat) : Int) ∧ ((xp355.length : Nat) : Int) ≤ (4 : Int))) rfl (fun h359 => ?_) (fun h359 => ?_)
        · skip
          have qh359 : Value.bool (decide (¬ ((1 : Int) ≤ ((xp355.length : Nat) : Int) ∧ ((xp355.length : Nat) : Int) ≤ (4 : Int)))) = Value.bool true := by rw [decide_eq_true h359]
          have h359i := h359
          have qh359i : Value.bool (decide ((1 : Int) ≤ ((xp355.length : Nat) : Int) ∧ ((xp355.length : Nat) : Int) ≤ (4 : Int))) = Value.bool false := by rw [decide_eq_false h359i]
          refine wc_seq ?_
          refine wc_region ?_
          refine wl_ok (r_assign (v := (.int .i64 (2))) rfl) ?_
          refine wl_nil ?_
          refine then_normal ?_
          refine wc_ret ?_
          refine then_ret ?_
          refine inBlock_ret ?_
          refine then_ret ?_
          refine then_ret ?_
          have t360 := tk
          rw [drop_some gp355] at t360
          simp only [refRows, eq_false h348, eq_true h354, eq_false h359i, if_true, if_false, ne_eq, not_true_eq_false, not_false_eq_true, eq_self] at t360
          refine inBlock_ret ?_
          refine then_ret ?_
          refine fin1 (v := (.int .i64 (2))) Try.results28 rfl ?_
          exact ⟨ret_int (by simp only [refAll, eq_false h348, eq_true h354, eq_false h359i, ← t360, if_true, if_false, ne_eq, not_true_eq_false, not_false_eq_true, eq_self]), G351⟩
        · skip
          have qh359 : Value.bool (decide (¬ ((1 : Int) ≤ ((xp355.length : Nat) : Int) ∧ ((xp355.length : Nat) : Int) ≤ (4 : Int)))) = Value.bool false := by rw [decide_eq_false h359]
          replace h359 := Decidable.not_not.1 h359
          have h359i := h359
          have qh359i : Value.bool (decide ((1 : Int) ≤ ((xp355.length : Nat) : Int) ∧ ((xp355.length : Nat) : Int) ≤ (4 : Int))) = Value.bool true := by rw [decide_eq_true h359i]
          refine wc_skip ?_
          refine then_normal ?_
          refine wc_seq ?_
          refine wc_region ?_
          refine wl_ok (r_move (v := vp355) rfl) ?_
          refine wl_ok (r_len_rd (v := vp355) SliceOf28 rfl sp355) ?_
          refine wl_ok (r_move (v := (.int .i64 (0))) rfl) ?_
          refine wl_nil ?_
          refine then_normal ?_
          refine wc_block ?_
          refine wc_loop (inl [2, 6, 7, 23, 24, 25, 26, 27, 28, 29, 30, 31, 32, 33, 34]) (σ := Nat) (fun j => [(23, (.int .i64 ((j : Nat))))]) (fun j wr => Grow w wr ∧ LtM M wr ∧ rSliceRd (rSlice rVal) wr M v l ∧ rSliceRd rVal wr M vp355 xp355 ∧ j ≤ xp355.length ∧ checkVals l.length (xp355.drop j) = checkVals l.length xp355) (fun j => xp355.length - j) (0) ⟨rfl, trivial⟩ ?_ ?_
          · exact ⟨G351, L352, s353, sp355, Nat.zero_le _, rfl⟩
          · rintro j w361 j362 ⟨G363, L364, s365, s366, lj, tj⟩
            refine wc_seq ?_
            refine wc_region ?_
            refine wl_ok (r_lss (p := (j : Nat)) (q := (xp355.length : Nat)) rfl rfl) ?_
            refine wl_nil ?_
            refine then_normal ?_
            refine wc_seq ?_
            refine wc_ifd (p := ((j : Nat) : Int) < (xp355.length : Nat)) rfl (fun h367 => ?_) (fun h367 => ?_)
            · skip
              have qh367 : Value.bool (decide (((j : Nat) : Int) < (xp355.length : Nat))) = Value.bool true := by rw [decide_eq_true h367]
              refine wc_skip ?_
              refine then_normal ?_
              refine wc_seq ?_
              refine wc_block ?_
              refine wc_seq ?_
              refine wc_region ?_
              refine wl_indexN (k := j) (v := vp355) SliceOf28 rfl rfl s366 rfl (by omega) ?_
              intro p368 cs369 xp368 gp368 hp368 rp368
              obtain ⟨rfl, ip368xkind, ip368xn⟩ := rVal_open rp368
              refine wl_ok (r_loadPN (p := p368) (cs := [(.int .i64 (xp368.kind)), (.int .i64 (xp368.n))]) Many34 rfl hp368 rfl) ?_
              refine wl_allocN Many34 ?_
              intro w370 b371 eb371 kb371 Bb371
              have lb371 : w.heap.size ≤ b371 := by have := G363.size; omega
              replace s365 := s365.go (kb371.weaken (fun _ h => absurd h List.not_mem_nil)) (mem_new eb371)
              replace s366 := s366.go (kb371.weaken (fun _ h => absurd h List.not_mem_nil)) (mem_new eb371)
              replace G363 := G363.grow kb371
              replace L364 := L364.grow kb371
              replace L364 := L364.cons Bb371.lt
              refine wl_storeN (b := b371) (o := 0) (vs := [(.int .i64 (xp368.kind)), (.int .i64 (xp368.n))]) Many34 rfl Bb371 rfl rfl (by simp) (by simp [Value.oneCell']) ?_
              intro w372 k373 B374
              replace B374 : Blk w372 b371 [(.int .i64 (xp368.kind)), (.int .i64 (xp368.n))] := B374
              replace s365 := s365.go (Keep.one k373 (by simp)) (fun _ h _ => h)
              replace s366 := s366.go (Keep.one k373 (by simp)) (fun _ h _ => h)
              replace G363 := G363.stepF k373 (by simp; omega)
              replace L364 := L364.grow k373
              refine wl_nil ?_
              refine then_normal ?_
              refine wc_seq ?_
              refine wc_region ?_
              refine wl_ok (r_loadBN (b := b371) (o := 0) (vs := [(.int .i64 (xp368.kind)), (.int .i64 (xp368.n))]) Many34 rfl B374 rfl rfl) ?_
              refine wl_ok (r_move (v := v) rfl) ?_
              refine wl_ok (r_len_rd (v := v) SliceOf27 rfl s365) ?_
              refine wl_call (args := [(.agg #[(.int .i64 (xp368.kind)), (.int .i64 (xp368.n))]), (.int .i64 ((l.length : Nat)))]) fnOk30 rfl rfl (refCheck_calls [] _ (fun x hx => absurd hx List.not_mem_nil) (xp368.kind) (xp368.n) ((l.length : Nat))) ?_
              rintro _ w375 ⟨rfl, k376⟩
              refine ⟨_, rfl, ?_⟩
              replace B374 := B374.grow k376
              replace s365 := s365.go (k376.weaken (fun _ h => absurd h List.not_mem_nil)) (fun _ h _ => h)
              replace s366 := s366.go (k376.weaken (fun _ h => absurd h List.not_mem_nil)) (fun _ h _ => h)
              replace G363 := G363.grow k376
              replace L364 := L364.grow k376
              refine wl_ok (r_assign (v := (.int .i64 (cellCheck (xp368.kind) (xp368.n) ((l.length : Nat))))) rfl) ?_
              refine wl_nil ?_
              refine then_normal ?_
              refine wc_seq ?_
              refine wc_region ?_
              refine wl_ok (r_move (v := (.int .i64 (cellCheck (xp368.kind) (xp368.n) ((l.length : Nat))))) rfl) ?_
              refine wl_ok (r_neq (p := cellCheck (xp368.kind) (xp368.n) ((l.length : Nat))) (q := 0) rfl rfl) ?_
              refine wl_nil ?_
              refine then_normal ?_
              refine wc_ifd (p := (cellCheck (xp368.kind) (xp368.n) ((l.length : Nat)) : Int) ≠ 0) rfl (fun h377 => ?_) (fun h377 => ?_)
              · skip
                have qh377 : Value.bool (decide ((cellCheck (xp368.kind) (xp368.n) ((l.length : Nat)) : Int) ≠ 0)) = Value.bool true := by rw [decide_eq_true h377]
                refine wc_seq ?_
                refine wc_region ?_
                refine wl_ok (r_move (v := (.int .i64 (cellCheck (xp368.kind) (xp368.n) ((l.length : Nat))))) rfl) ?_
                refine wl_ok (r_assign (v := (.int .i64 (cellCheck (xp368.kind) (xp368.n) ((l.length : Nat))))) rfl) ?_
                refine wl_nil ?_
                refine then_normal ?_
                refine wc_ret ?_
                refine inBlock_ret ?_
                refine then_ret ?_
                refine then_ret ?_
                have t378 := tj
                rw [drop_some gp368] at t378
                simp only [checkVals, eq_false h348, eq_true h354, eq_true h359i, eq_true h367, eq_false h377, if_true, if_false, ne_eq, not_true_eq_false, not_false_eq_true, eq_self] at t378
                refine inBlock_ret ?_
                refine inBlock_ret ?_
                refine then_ret ?_
                refine then_ret ?_
                have t379 := tk
                rw [drop_some gp355] at t379
                simp only [refRows, eq_false h348, eq_true h354, eq_true h359i, eq_true h367, eq_false h377, ← t378, if_true, if_false, ne_eq, not_true_eq_false, not_false_eq_true, eq_self] at t379
                refine inBlock_ret ?_
                refine then_ret ?_
                refine fin1 (v := (.int .i64 (cellCheck (xp368.kind) (xp368.n) ((l.length : Nat))))) Try.results28 rfl ?_
                exact ⟨ret_int (by simp only [refAll, eq_false h348, eq_true h354, eq_true h359i, eq_true h367, eq_false h377, ← t378, ← t379, if_true, if_false, ne_eq, not_true_eq_false, not_false_eq_true, eq_self]), G363⟩
              · skip
                have qh377 : Value.bool (decide ((cellCheck (xp368.kind) (xp368.n) ((l.length : Nat)) : Int) ≠ 0)) = Value.bool false := by rw [decide_eq_false h377]
                replace h377 := Decidable.not_not.1 h377
                refine wc_skip ?_
                refine inBlock_normal ?_
                refine then_normal ?_
                refine wc_region ?_
                refine wl_ok (r_add (p := (j : Nat)) (q := 1) rfl rfl (by omega)) ?_
                refine wl_ok (r_move (v := (.int .i64 (((j : Nat) + 1)))) rfl) ?_
                refine wl_nil ?_
                refine then_loop ?_
                have t380 := tj
                rw [drop_some gp368] at t380
                simp only [checkVals, eq_false h348, eq_true h354, eq_true h359i, eq_true h367, eq_true h377, if_true, if_false, ne_eq, not_true_eq_false, not_false_eq_true, eq_self] at t380
                exact ⟨j + 1, _, rfl, (by repeat (first | (with_reducible exact Agr.hav _ _ _) | (with_reducible refine Agr.on ?_) | ((with_reducible refine Agr.hin ?_ ?_); rfl) | (with_reducible refine Agr.un ?_) | ((with_reducible refine Agr.os ?_ ?_); rfl) | ((with_reducible refine Agr.uc ?_ ?_); rfl))), ⟨rfl, trivial⟩, ⟨G363, (fun x hx => L364 x (List.mem_cons_of_mem _ hx)), (s365.go (Keep.refl _ _) (fun x hx _ => (List.mem_cons_of_mem _ hx))), (s366.go (Keep.refl _ _) (fun x hx _ => (List.mem_cons_of_mem _ hx))), by omega, t380⟩, (by omega)⟩
            · skip
              have qh367 : Value.bool (decide (((j : Nat) : Int) < (xp355.length : Nat))) = Value.bool false := by rw [decide_eq_false h367]
              refine wc_exit ?_
              refine then_exit ?_
              refine then_exit ?_
              have t381 := tj
              rw [drop_done h367] at t381
              simp only [checkVals, eq_false h348, eq_true h354, eq_true h359i, eq_false h367, if_true, if_false, ne_eq, not_true_eq_false, not_false_eq_true, eq_self] at t381
              refine inBlock_eq ?_
              refine inBlock_normal ?_
              refine then_normal ?_
              refine wc_region ?_
              refine wl_ok (r_add (p := (k : Nat)) (q := 1) rfl rfl (by omega)) ?_
              refine wl_ok (r_move (v := (.int .i64 (((k : Nat) + 1)))) rfl) ?_
              refine wl_nil ?_
              refine then_loop ?_
              have t382 := tk
              rw [drop_some gp355] at t382
              simp only [refRows, eq_false h348, eq_true h354, eq_true h359i, eq_false h367, ← t381, if_true, if_false, ne_eq, not_true_eq_false, not_false_eq_true, eq_self] at t382
              exact ⟨k + 1, _, rfl, (by repeat (first | (with_reducible exact Agr.hav _ _ _) | (with_reducible refine Agr.on ?_) | ((with_reducible refine Agr.hin ?_ ?_); rfl) | (with_reducible refine Agr.un ?_) | ((with_reducible refine Agr.os ?_ ?_); rfl) | ((with_reducible refine Agr.uc ?_ ?_); rfl))), ⟨rfl, trivial⟩, ⟨G363, L364, s365, by omega, t382⟩, (by omega)⟩
      · skip
        have qh354 : Value.bool (decide (((k : Nat) : Int) < (l.length : Nat))) = Value.bool false := by rw [decide_eq_false h354]
        refine wc_exit ?_
        refine then_exit ?_
        refine then_exit ?_
        have t383 := tk
        rw [drop_done h354] at t383
        simp only [refRows, eq_false h348, eq_false h354, if_true, if_false, ne_eq, not_true_eq_false, not_false_eq_true, eq_self] at t383
        refine inBlock_eq ?_
        refine then_normal ?_
        refine wc_seq ?_
        refine wc_region ?_
        refine wl_ok (r_assign (v := (.int .i64 (0))) rfl) ?_
        refine wl_nil ?_
        refine then_normal ?_
        refine wc_ret ?_
        refine fin1 (v := (.int .i64 (0))) Try.results28 rfl ?_
        exact ⟨ret_int (by simp only [refAll, eq_false h348, eq_false h354, ← t383, if_true, if_false, ne_eq, not_true_eq_false, not_false_eq_true, eq_self]), G351⟩

theorem refAll_calls (M : List Nat) (w : World) (hL : LtM M w) (v : Value) (l : List (List Val)) (hv : rSliceRd (rSlice rVal) w M v l) : Calls Try.prog 28 #[v] w (fun e w' => e = .returned (.int .i64 (checkAll l)) ∧ Grow w w') := by
  rw [← refAll_eq]; exact refAll0_calls M w hL v l hv
theorem eqVals_calls (M : List Nat) (w : World) (hL : LtM M w) (a b : Value) (x y : List Val) (ha : rSliceRd rVal w M a x) (hb : rSliceRd rVal w M b y) : Calls Try.prog 72 #[a, b] w
    (fun e w' => e = .returned (.bool (decide (x = y))) ∧ Grow w w') := by
  refine calls_start (args := [a, b]) Try.func72 rfl Try.ntmps72 (Nat.le_of_ble_eq_true rfl) ?_
  have hG : Grow w w := Keep.refl _ _
  have hl := ha.len_le
  have hlb := hb.len_le
  refine wc_seq ?_
  refine wc_region ?_
  refine wl_ok (r_assign (v := (.bool false)) rfl) ?_
  refine wl_nil ?_
  refine then_normal ?_
  refine wc_seq ?_
  refine wc_seq ?_
  refine wc_region ?_
  refine wl_ok (r_move (v := a) rfl) ?_
  refine wl_ok (r_len_rd (v := a) SliceOf28 rfl ha) ?_
  refine wl_ok (r_move (v := b) rfl) ?_
  refine wl_ok (r_len_rd (v := b) SliceOf28 rfl hb) ?_
  refine wl_ok (r_neq (p := (x.length : Nat)) (q := (y.length : Nat)) rfl rfl) ?_
  refine wl_nil ?_
  refine then_normal ?_
  refine wc_ifd (p := ((x.length : Nat) : Int) ≠ (y.length : Nat)) rfl (fun h384 => ?_) (fun h384 => ?_)
  · skip
    have qh384 : Value.bool (decide (((x.length : Nat) : Int) ≠ (y.length : Nat))) = Value.bool true := by rw [decide_eq_true h384]
    refine wc_seq ?_
    refine wc_region ?_
    refine wl_ok (r_assign (v := (.bool false)) rfl) ?_
    refine wl_nil ?_
    refine then_normal ?_
    refine wc_ret ?_
    refine then_ret ?_
    refine fin1 (v := (.bool false)) Try.results72 rfl ?_
    exact ⟨ret_bool (decide_eq_false (fun e => absurd (congrArg List.length e) (by omega))).symm, hG⟩
  · skip
    have qh384 : Value.bool (decide (((x.length : Nat) : Int) ≠ (y.length : Nat))) = Value.bool false := by rw [decide_eq_false h384]
    replace h384 := Decidable.not_not.1 h384
    refine wc_skip ?_
    refine then_normal ?_
    refine wc_seq ?_
    refine wc_seq ?_
    refine wc_region ?_
    refine wl_ok (r_move (v := a) rfl) ?_
    refine wl_ok (r_len_rd (v := a) SliceOf28 rfl ha) ?_
    refine wl_ok (r_move (v := (.int .i64 (0))) rfl) ?_
    refine wl_nil ?_
    refine then_normal ?_
    refine wc_block ?_
    refine wc_loop (inl [4, 5, 13, 14, 15, 16, 17, 18, 19, 20, 21, 22, 23, 24, 25]) (σ := Nat) (fun k => [(13, (.int .i64 ((k : Nat))))]) (fun k wr => Grow w wr ∧ LtM M wr ∧ rSliceRd rVal wr M a x ∧ rSliceRd rVal wr M b y ∧ k ≤ x.length ∧ x.take k = y.take k) (fun k => x.length - k) (0) ⟨rfl, trivial⟩ ?_ ?_
    · exact ⟨hG, hL, ha, hb, Nat.zero_le _, rfl⟩
    · rintro k w385 j386 ⟨G387, L388, s389, s390, lk, tk⟩
      refine wc_seq ?_
      refine wc_region ?_
      refine wl_ok (r_lss (p := (k : Nat)) (q := (x.length : Nat)) rfl rfl) ?_
      refine wl_nil ?_
      refine then_normal ?_
      refine wc_seq ?_
      refine wc_ifd (p := ((k : Nat) : Int) < (x.length : Nat)) rfl (fun h391 => ?_) (fun h391 => ?_)
      · skip
        have qh391 : Value.bool (decide (((k : Nat) : Int) < (x.length : Nat))) = Value.bool true := by rw [decide_eq_true h391]
        refine wc_skip ?_
        refine then_normal ?_
        refine wc_seq ?_
        refine wc_block ?_
        refine wc_seq ?_
        refine wc_region ?_
        refine wl_ok (r_move (v := (.int .i64 ((k : Nat)))) rfl) ?_
        refine wl_ok (r_assign (v := (.int .i64 ((k : Nat)))) rfl) ?_
        refine wl_nil ?_
        refine then_normal ?_
        refine wc_seq ?_
        refine wc_quiet mixed (by kernel_rfl) ?_
        refine wq_ok (fun wq hq => (r_move (v := a) rfl)) ?_
        refine wq_ok (fun wq hq => (r_move (v := (.int .i64 ((k : Nat)))) rfl)) ?_
        refine wq_indexN (k := k) (v := a) SliceOf28 rfl rfl s389 rfl (by omega) ?_
        intro p392 cs393 xp392 gp392 hp392 rp392
        obtain ⟨rfl, ip392xkind, ip392xn⟩ := rVal_open rp392
        refine wq_ok (fun wq hq => (r_loadPN (p := p392) (cs := [(.int .i64 (xp392.kind)), (.int .i64 (xp392.n))]) Many34 rfl (hp392.grow hq) rfl)) ?_
        refine wq_ok (fun wq hq => (r_move (v := b) rfl)) ?_
        refine wq_ok (fun wq hq => (r_move (v := (.int .i64 ((k : Nat)))) rfl)) ?_
        refine wq_indexN (k := k) (v := b) SliceOf28 rfl rfl s390 rfl (by omega) ?_
        intro p394 cs395 xp394 gp394 hp394 rp394
        obtain ⟨rfl, ip394xkind, ip394xn⟩ := rVal_open rp394
        refine wq_ok (fun wq hq => (r_loadPN (p := p394) (cs := [(.int .i64 (xp394.kind)), (.int .i64 (xp394.n))]) Many34 rfl (hp394.grow hq) rfl)) ?_
        refine wq_ok (fun wq hq => (r_neqV (a := xp392.kind) (b := xp392.n) (c := xp394.kind) (e := xp394.n) PairI34 rfl rfl)) ?_
        refine wq_nil ?_
        intro w396 k397
        replace s389 := s389.go (k397.weaken (fun _ h => absurd h List.not_mem_nil)) (fun _ h _ => h)
        replace s390 := s390.go (k397.weaken (fun _ h => absurd h List.not_mem_nil)) (fun _ h _ => h)
        replace G387 := G387.grow k397
        replace L388 := L388.grow k397
        refine then_normal ?_
        refine wc_ifd (p := (xp392 : Val) ≠ xp394) rfl (fun h398 => ?_) (fun h398 => ?_)
        · skip
          have qh398 : Value.bool (decide ((xp392 : Val) ≠ xp394)) = Value.bool true := by rw [decide_eq_true h398]
          refine wc_seq ?_
          refine wc_region ?_
          refine wl_ok (r_assign (v := (.bool false)) rfl) ?_
          refine wl_nil ?_
          refine then_normal ?_
          refine wc_ret ?_
          refine inBlock_ret ?_
          refine then_ret ?_
          refine then_ret ?_
          refine inBlock_ret ?_
          refine then_ret ?_
          refine fin1 (v := (.bool false)) Try.results72 rfl ?_
          exact ⟨ret_bool (decide_eq_false (list_ne gp392 gp394 h398)).symm, G387⟩
        · skip
          have qh398 : Value.bool (decide ((xp392 : Val) ≠ xp394)) = Value.bool false := by rw [decide_eq_false h398]
          replace h398 := Decidable.not_not.1 h398
          refine wc_skip ?_
          refine inBlock_normal ?_
          refine then_normal ?_
          refine wc_region ?_
          refine wl_ok (r_add (p := (k : Nat)) (q := 1) rfl rfl (by omega)) ?_
          refine wl_ok (r_move (v := (.int .i64 (((k : Nat) + 1)))) rfl) ?_
          refine wl_nil ?_
          refine then_loop ?_
          exact ⟨k + 1, _, rfl, (by repeat (first | (with_reducible exact Agr.hav _ _ _) | (with_reducible refine Agr.on ?_) | ((with_reducible refine Agr.hin ?_ ?_); rfl) | (with_reducible refine Agr.un ?_) | ((with_reducible refine Agr.os ?_ ?_); rfl) | ((with_reducible refine Agr.uc ?_ ?_); rfl))), ⟨rfl, trivial⟩, ⟨G387, L388, s389, s390, by omega, (take_same gp392 gp394 h398 tk)⟩, (by omega)⟩
      · skip
        have qh391 : Value.bool (decide (((k : Nat) : Int) < (x.length : Nat))) = Value.bool false := by rw [decide_eq_false h391]
        refine wc_exit ?_
        refine then_exit ?_
        refine then_exit ?_
        refine inBlock_eq ?_
        refine then_normal ?_
        refine wc_seq ?_
        refine wc_region ?_
        refine wl_ok (r_assign (v := (.bool true)) rfl) ?_
        refine wl_nil ?_
        refine then_normal ?_
        refine wc_ret ?_
        refine fin1 (v := (.bool true)) Try.results72 rfl ?_
        exact ⟨ret_bool (decide_eq_true (take_all tk (by omega) (by omega))).symm, G387⟩

theorem eqCells_calls (M : List Nat) (w : World) (hL : LtM M w) (a b : Value) (x y : List (List Val)) (ha : rSliceRd (rSlice rVal) w M a x) (hb : rSliceRd (rSlice rVal) w M b y) : Calls Try.prog 32 #[a, b] w
    (fun e w' => e = .returned (.bool (decide (x = y))) ∧ Grow w w') := by
  refine calls_start (args := [a, b]) Try.func32 rfl Try.ntmps32 (Nat.le_of_ble_eq_true rfl) ?_
  have hG : Grow w w := Keep.refl _ _
  have hl := ha.len_le
  have hlb := hb.len_le
  refine wc_seq ?_
  refine wc_region ?_
  refine wl_ok (r_assign (v := (.bool false)) rfl) ?_
  refine wl_nil ?_
  refine then_normal ?_
  refine wc_seq ?_
  refine wc_region ?_
  refine wl_ok (r_move (v := a) rfl) ?_
  refine wl_ok (r_move (v := b) rfl) ?_
  refine wl_callIn (args := [a, b, (.func (.func 71) #[] #[])]) fnOk70 rfl rfl ?_
  refine calls_start (args := [a, b, (.func (.func 71) #[] #[])]) Try.func70 rfl Try.ntmps70 (Nat.le_of_ble_eq_true rfl) ?_
  refine wc_seq ?_
  refine wc_region ?_
  refine wl_ok (r_assign (v := (.bool false)) rfl) ?_
  refine wl_nil ?_
  refine then_normal ?_
  refine wc_seq ?_
  refine wc_seq ?_
  refine wc_region ?_
  refine wl_ok (r_move (v := a) rfl) ?_
  refine wl_ok (r_len_rd (v := a) SliceOf27 rfl ha) ?_
  refine wl_ok (r_move (v := b) rfl) ?_
  refine wl_ok (r_len_rd (v := b) SliceOf27 rfl hb) ?_
  refine wl_ok (r_neq (p := (x.length : Nat)) (q := (y.length : Nat)) rfl rfl) ?_
  refine wl_nil ?_
  refine then_normal ?_
  refine wc_ifd (p := ((x.length : Nat) : Int) ≠ (y.length : Nat)) rfl (fun h399 => ?_) (fun h399 => ?_)
  · skip
    have qh399 : Value.bool (decide (((x.length : Nat) : Int) ≠ (y.length : Nat))) = Value.bool true := by rw [decide_eq_true h399]
    refine wc_seq ?_
    refine wc_region ?_
    refine wl_ok (r_assign (v := (.bool false)) rfl) ?_
    refine wl_nil ?_
    refine then_normal ?_
    refine wc_ret ?_
    refine then_ret ?_
    refine fin1 (v := (.bool false)) Try.results70 rfl ?_
    refine ⟨_, rfl, ?_⟩
    refine wl_ok (r_assign (v := (.bool false)) rfl) ?_
    refine wl_nil ?_
    refine then_normal ?_
    refine wc_ret ?_
    refine fin1 (v := (.bool false)) Try.results32 rfl ?_
    exact ⟨ret_bool (decide_eq_false (fun e => absurd (congrArg List.length e) (by omega))).symm, hG⟩
  · skip
    have qh399 : Value.bool (decide (((x.length : Nat) : Int) ≠ (y.length : Nat))) = Value.bool false := by rw [decide_eq_false h399]
    replace h399 := Decidable.not_not.1 h399
    refine wc_skip ?_
    refine then_normal ?_
    refine wc_seq ?_
    refine wc_seq ?_
    refine wc_region ?_
    refine wl_ok (r_move (v := a) rfl) ?_
    refine wl_ok (r_len_rd (v := a) SliceOf27 rfl ha) ?_
    refine wl_ok (r_move (v := (.int .i64 (0))) rfl) ?_
    refine wl_nil ?_
    refine then_normal ?_
    refine wc_block ?_
    refine wc_loop (inl [6, 7, 8, 9, 17, 18, 19, 20, 21, 22, 23, 24, 25, 26, 27, 28, 29, 30, 31]) (σ := Nat) (fun k => [(17, (.int .i64 ((k : Nat))))]) (fun k wr => Grow w wr ∧ LtM M wr ∧ rSliceRd (rSlice rVal) wr M a x ∧ rSliceRd (rSlice rVal) wr M b y ∧ k ≤ x.length ∧ x.take k = y.take k) (fun k => x.length - k) (0) ⟨rfl, trivial⟩ ?_ ?_
    · exact ⟨hG, hL, ha, hb, Nat.zero_le _, rfl⟩
    · rintro k w400 j401 ⟨G402, L403, s404, s405, lk, tk⟩
      refine wc_seq ?_
      refine wc_region ?_
      refine wl_ok (r_lss (p := (k : Nat)) (q := (x.length : Nat)) rfl rfl) ?_
      refine wl_nil ?_
      refine then_normal ?_
      refine wc_seq ?_
      refine wc_ifd (p := ((k : Nat) : Int) < (x.length : Nat)) rfl (fun h406 => ?_) (fun h406 => ?_)
      · skip
        have qh406 : Value.bool (decide (((k : Nat) : Int) < (x.length : Nat))) = Value.bool true := by rw [decide_eq_true h406]
        refine wc_skip ?_
        refine then_normal ?_
        refine wc_seq ?_
        refine wc_block ?_
        refine wc_seq ?_
        refine wc_region ?_
        refine wl_ok (r_move (v := (.int .i64 ((k : Nat)))) rfl) ?_
        refine wl_indexN (k := k) (v := a) SliceOf27 rfl rfl s404 rfl (by omega) ?_
        intro p407 cs408 xp407 gp407 hp407 rp407
        obtain ⟨vp407, rfl, sp407⟩ := rp407
        have zp407 := sp407.len_le
        refine wl_ok (r_loadP1 (p := p407) (v := vp407) One28 rfl hp407) ?_
        refine wl_ok (r_assign (v := (.int .i64 ((k : Nat)))) rfl) ?_
        refine wl_ok (r_assign (v := vp407) rfl) ?_
        refine wl_nil ?_
        refine then_normal ?_
        refine wc_seq ?_
        refine wc_region ?_
        refine wl_ok (r_move (v := b) rfl) ?_
        refine wl_ok (r_move (v := (.int .i64 ((k : Nat)))) rfl) ?_
        refine wl_indexN (k := k) (v := b) SliceOf27 rfl rfl s405 rfl (by omega) ?_
        intro p409 cs410 xp409 gp409 hp409 rp409
        obtain ⟨vp409, rfl, sp409⟩ := rp409
        have zp409 := sp409.len_le
        refine wl_ok (r_loadP1 (p := p409) (v := vp409) One28 rfl hp409) ?_
        refine wl_ok (r_assign (v := vp409) rfl) ?_
        refine wl_nil ?_
        refine then_normal ?_
        refine wc_seq ?_
        refine wc_region ?_
        refine wl_ok (r_move (v := (.func (.func 71) #[] #[])) rfl) ?_
        refine wl_ok (r_move (v := vp407) rfl) ?_
        refine wl_ok (r_move (v := vp409) rfl) ?_
        refine wl_callIn (args := [vp407, vp409]) fnOk71 rfl rfl ?_
        refine calls_start (args := [vp407, vp409]) Try.func71 rfl Try.ntmps71 (Nat.le_of_ble_eq_true rfl) ?_
        refine wc_seq ?_
        refine wc_region ?_
        refine wl_ok (r_assign (v := (.bool false)) rfl) ?_
        refine wl_nil ?_
        refine then_normal ?_
        refine wc_seq ?_
        refine wc_region ?_
        refine wl_ok (r_move (v := vp407) rfl) ?_
        refine wl_ok (r_move (v := vp409) rfl) ?_
        refine wl_call (args := [vp407, vp409]) fnOk72 rfl rfl (eqVals_calls [] _ (fun x hx => absurd hx List.not_mem_nil) vp407 vp409 xp407 xp409 sp407.bare sp409.bare) ?_
        rintro _ w411 ⟨rfl, k412⟩
        refine ⟨_, rfl, ?_⟩
        replace s404 := s404.go (k412.weaken (fun _ h => absurd h List.not_mem_nil)) (fun _ h _ => h)
        replace s405 := s405.go (k412.weaken (fun _ h => absurd h List.not_mem_nil)) (fun _ h _ => h)
        replace sp407 := sp407.go (k412.weaken (fun _ h => absurd h List.not_mem_nil)) (fun _ h _ => h)
        replace sp409 := sp409.go (k412.weaken (fun _ h => absurd h List.not_mem_nil)) (fun _ h _ => h)
        replace G402 := G402.grow k412
        replace L403 := L403.grow k412
        refine wl_ok (r_assign (v := (.bool (decide ((xp407 : List Val) = xp409)))) rfl) ?_
        refine wl_nil ?_
        refine then_normal ?_
        refine wc_ret ?_
        refine fin1 (v := (.bool (decide ((xp407 : List Val) = xp409)))) Try.results71 rfl ?_
        refine ⟨_, rfl, ?_⟩
        refine wl_ok (r_notd (p := (xp407 : List Val) = xp409) rfl) ?_
        refine wl_nil ?_
        refine then_normal ?_
        refine wc_ifd (p := ¬ ((xp407 : List Val) = xp409)) rfl (fun h413 => ?_) (fun h413 => ?_)
        · skip
          have qh413 : Value.bool (decide (¬ ((xp407 : List Val) = xp409))) = Value.bool true := by rw [decide_eq_true h413]
          have h413i := h413
          have qh413i : Value.bool (decide ((xp407 : List Val) = xp409)) = Value.bool false := by rw [decide_eq_false h413i]
          refine wc_seq ?_
          refine wc_region ?_
          refine wl_ok (r_assign (v := (.bool false)) rfl) ?_
          refine wl_nil ?_
          refine then_normal ?_
          refine wc_ret ?_
          refine inBlock_ret ?_
          refine then_ret ?_
          refine then_ret ?_
          refine inBlock_ret ?_
          refine then_ret ?_
          refine fin1 (v := (.bool false)) Try.results70 rfl ?_
          refine ⟨_, rfl, ?_⟩
          refine wl_ok (r_assign (v := (.bool false)) rfl) ?_
          refine wl_nil ?_
          refine then_normal ?_
          refine wc_ret ?_
          refine fin1 (v := (.bool false)) Try.results32 rfl ?_
          exact ⟨ret_bool (decide_eq_false (list_ne gp407 gp409 h413i)).symm, G402⟩
        · skip
          have qh413 : Value.bool (decide (¬ ((xp407 : List Val) = xp409))) = Value.bool false := by rw [decide_eq_false h413]
          replace h413 := Decidable.not_not.1 h413
          have h413i := h413
          have qh413i : Value.bool (decide ((xp407 : List Val) = xp409)) = Value.bool true := by rw [decide_eq_true h413i]
          refine wc_skip ?_
          refine inBlock_normal ?_
          refine then_normal ?_
          refine wc_region ?_
          refine wl_ok (r_add (p := (k : Nat)) (q := 1) rfl rfl (by omega)) ?_
          refine wl_ok (r_move (v := (.int .i64 (((k : Nat) + 1)))) rfl) ?_
          refine wl_nil ?_
          refine then_loop ?_
          exact ⟨k + 1, _, rfl, (by repeat (first | (with_reducible exact Agr.hav _ _ _) | (with_reducible refine Agr.on ?_) | ((with_reducible refine Agr.hin ?_ ?_); rfl) | (with_reducible refine Agr.un ?_) | ((with_reducible refine Agr.os ?_ ?_); rfl) | ((with_reducible refine Agr.uc ?_ ?_); rfl))), ⟨rfl, trivial⟩, ⟨G402, L403, s404, s405, by omega, (take_same gp407 gp409 h413i tk)⟩, (by omega)⟩
      · skip
        have qh406 : Value.bool (decide (((k : Nat) : Int) < (x.length : Nat))) = Value.bool false := by rw [decide_eq_false h406]
        refine wc_exit ?_
        refine then_exit ?_
        refine then_exit ?_
        refine inBlock_eq ?_
        refine then_normal ?_
        refine wc_seq ?_
        refine wc_region ?_
        refine wl_ok (r_assign (v := (.bool true)) rfl) ?_
        refine wl_nil ?_
        refine then_normal ?_
        refine wc_ret ?_
        refine fin1 (v := (.bool true)) Try.results70 rfl ?_
        refine ⟨_, rfl, ?_⟩
        refine wl_ok (r_assign (v := (.bool true)) rfl) ?_
        refine wl_nil ?_
        refine then_normal ?_
        refine wc_ret ?_
        refine fin1 (v := (.bool true)) Try.results32 rfl ?_
        exact ⟨ret_bool (decide_eq_true (take_all tk (by omega) (by omega))).symm, G402⟩

theorem refSame_calls (M : List Nat) (w : World) (hL : LtM M w) (a b : Value) (x y : List (List Val)) (ha : rSliceRd (rSlice rVal) w M a x) (hb : rSliceRd (rSlice rVal) w M b y) : Calls Try.prog 33 #[a, b] w
    (fun e w' => e = .returned (.bool (decide (x = y))) ∧ Grow w w') := by
  refine calls_start (args := [a, b]) Try.func33 rfl Try.ntmps33 (Nat.le_of_ble_eq_true rfl) ?_
  have hG : Grow w w := Keep.refl _ _
  have hl := ha.len_le
  have hlb := hb.len_le
  refine wc_seq ?_
  refine wc_region ?_
  refine wl_ok (r_assign (v := (.bool false)) rfl) ?_
  refine wl_nil ?_
  refine then_normal ?_
  refine wc_seq ?_
  refine wc_seq ?_
  refine wc_region ?_
  refine wl_ok (r_move (v := a) rfl) ?_
  refine wl_ok (r_len_rd (v := a) SliceOf27 rfl ha) ?_
  refine wl_ok (r_move (v := b) rfl) ?_
  refine wl_ok (r_len_rd (v := b) SliceOf27 rfl hb) ?_
  refine wl_ok (r_neq (p := (x.length : Nat)) (q := (y.length : Nat)) rfl rfl) ?_
  refine wl_nil ?_
  refine then_normal ?_
  refine wc_ifd (p := ((x.length : Nat) : Int) ≠ (y.length : Nat)) rfl (fun h414 => ?_) (fun h414 => ?_)
  · skip
    have qh414 : Value.bool (decide (((x.length : Nat) : Int) ≠ (y.length : Nat))) = Value.bool true := by rw [decide_eq_true h414]
    refine wc_seq ?_
    refine wc_region ?_
    refine wl_ok (r_assign (v := (.bool false)) rfl) ?_
    refine wl_nil ?_
    refine then_normal ?_
    refine wc_ret ?_
    refine then_ret ?_
    refine fin1 (v := (.bool false)) Try.results33 rfl ?_
    exact ⟨ret_bool (decide_eq_false (fun e => absurd (congrArg List.length e) (by omega))).symm, hG⟩
  · skip
    have qh414 : Value.bool (decide (((x.length : Nat) : Int) ≠ (y.length : Nat))) = Value.bool false := by rw [decide_eq_false h414]
    replace h414 := Decidable.not_not.1 h414
    refine wc_skip ?_
    refine then_normal ?_
    refine wc_seq ?_
    refine wc_seq ?_
    refine wc_region ?_
    refine wl_ok (r_move (v := a) rfl) ?_
    refine wl_ok (r_len_rd (v := a) SliceOf27 rfl ha) ?_
    refine wl_ok (r_move (v := (.int .i64 (0))) rfl) ?_
    refine wl_nil ?_
    refine then_normal ?_
    refine wc_block ?_
    refine wc_loop (inl [4, 5, 13, 14, 15, 16, 17, 18, 19, 20, 21, 22, 23, 24, 25, 26]) (σ := Nat) (fun k => [(13, (.int .i64 ((k : Nat))))]) (fun k wr => Grow w wr ∧ LtM M wr ∧ rSliceRd (rSlice rVal) wr M a x ∧ rSliceRd (rSlice rVal) wr M b y ∧ k ≤ x.length ∧ x.take k = y.take k) (fun k => x.length - k) (0) ⟨rfl, trivial⟩ ?_ ?_
    · exact ⟨hG, hL, ha, hb, Nat.zero_le _, rfl⟩
    · rintro k w415 j416 ⟨G417, L418, s419, s420, lk, tk⟩
      refine wc_seq ?_
      refine wc_region ?_
      refine wl_ok (r_lss (p := (k : Nat)) (q := (x.length : Nat)) rfl rfl) ?_
      refine wl_nil ?_
      refine then_normal ?_
      refine wc_seq ?_
      refine wc_ifd (p := ((k : Nat) : Int) < (x.length : Nat)) rfl (fun h421 => ?_) (fun h421 => ?_)
      · skip
        have qh421 : Value.bool (decide (((k : Nat) : Int) < (x.length : Nat))) = Value.bool true := by rw [decide_eq_true h421]
        refine wc_skip ?_
        refine then_normal ?_
        refine wc_seq ?_
        refine wc_block ?_
        refine wc_seq ?_
        refine wc_region ?_
        refine wl_ok (r_move (v := (.int .i64 ((k : Nat)))) rfl) ?_
        refine wl_ok (r_assign (v := (.int .i64 ((k : Nat)))) rfl) ?_
        refine wl_nil ?_
        refine then_normal ?_
        refine wc_seq ?_
        refine wc_quiet mixed (by kernel_rfl) ?_
        refine wq_ok (fun wq hq => (r_move (v := a) rfl)) ?_
        refine wq_ok (fun wq hq => (r_move (v := (.int .i64 ((k : Nat)))) rfl)) ?_
        refine wq_indexN (k := k) (v := a) SliceOf27 rfl rfl s419 rfl (by omega) ?_
        intro p422 cs423 xp422 gp422 hp422 rp422
        obtain ⟨vp422, rfl, sp422⟩ := rp422
        have zp422 := sp422.len_le
        refine wq_ok (fun wq hq => (r_loadP1 (p := p422) (v := vp422) One28 rfl (hp422.grow hq))) ?_
        refine wq_ok (fun wq hq => (r_move (v := b) rfl)) ?_
        refine wq_ok (fun wq hq => (r_move (v := (.int .i64 ((k : Nat)))) rfl)) ?_
        refine wq_indexN (k := k) (v := b) SliceOf27 rfl rfl s420 rfl (by omega) ?_
        intro p424 cs425 xp424 gp424 hp424 rp424
        obtain ⟨vp424, rfl, sp424⟩ := rp424
        have zp424 := sp424.len_le
        refine wq_ok (fun wq hq => (r_loadP1 (p := p424) (v := vp424) One28 rfl (hp424.grow hq))) ?_
        refine wq_call (args := [vp422, vp424]) fnOk72 rfl rfl (fun wq hq => (Calls.mono (eqVals_calls [] wq (fun x hx => absurd hx List.not_mem_nil) vp422 vp424 xp422 xp424 (sp422.bare.grow hq) (sp424.bare.grow hq)) (fun e w2 h => ⟨h.1, hq.trans h.2⟩))) ?_
        refine wq_ok (fun wq hq => (r_notd (p := (xp422 : List Val) = xp424) rfl)) ?_
        refine wq_nil ?_
        intro w426 k427
        replace s419 := s419.go (k427.weaken (fun _ h => absurd h List.not_mem_nil)) (fun _ h _ => h)
        replace s420 := s420.go (k427.weaken (fun _ h => absurd h List.not_mem_nil)) (fun _ h _ => h)
        replace sp422 := sp422.go (k427.weaken (fun _ h => absurd h List.not_mem_nil)) (fun _ h _ => h)
        replace sp424 := sp424.go (k427.weaken (fun _ h => absurd h List.not_mem_nil)) (fun _ h _ => h)
        replace G417 := G417.grow k427
        replace L418 := L418.grow k427
        refine then_normal ?_
        refine wc_ifd (p := ¬ ((xp422 : List Val) = xp424)) rfl (fun h428 => ?_) (fun h428 => ?_)
        · skip
          have qh428 : Value.bool (decide (¬ ((xp422 : List Val) = xp424))) = Value.bool true := by rw [decide_eq_true h428]
          have h428i := h428
          have qh428i : Value.bool (decide ((xp422 : List Val) = xp424)) = Value.bool false := by rw [decide_eq_false h428i]
          refine wc_seq ?_
          refine wc_region ?_
          refine wl_ok (r_assign (v := (.bool false)) rfl) ?_
          refine wl_nil ?_
          refine then_normal ?_
          refine wc_ret ?_
          refine inBlock_ret ?_
          refine then_ret ?_
          refine then_ret ?_
          refine inBlock_ret ?_
          refine then_ret ?_
          refine fin1 (v := (.bool false)) Try.results33 rfl ?_
          exact ⟨ret_bool (decide_eq_false (list_ne gp422 gp424 h428i)).symm, G417⟩
        · skip
          have qh428 : Value.bool (decide (¬ ((xp422 : List Val) = xp424))) = Value.bool false := by rw [decide_eq_false h428]
          replace h428 := Decidable.not_not.1 h428
          have h428i := h428
          have qh428i : Value.bool (decide ((xp422 : List Val) = xp424)) = Value.bool true := by rw [decide_eq_true h428i]
          refine wc_skip ?_
          refine inBlock_normal ?_
          refine then_normal ?_
          refine wc_region ?_
          refine wl_ok (r_add (p := (k : Nat)) (q := 1) rfl rfl (by omega)) ?_
          refine wl_ok (r_move (v := (.int .i64 (((k : Nat) + 1)))) rfl) ?_
          refine wl_nil ?_
          refine then_loop ?_
          exact ⟨k + 1, _, rfl, (by repeat (first | (with_reducible exact Agr.hav _ _ _) | (with_reducible refine Agr.on ?_) | ((with_reducible refine Agr.hin ?_ ?_); rfl) | (with_reducible refine Agr.un ?_) | ((with_reducible refine Agr.os ?_ ?_); rfl) | ((with_reducible refine Agr.uc ?_ ?_); rfl))), ⟨rfl, trivial⟩, ⟨G417, L418, s419, s420, by omega, (take_same gp422 gp424 h428i tk)⟩, (by omega)⟩
      · skip
        have qh421 : Value.bool (decide (((k : Nat) : Int) < (x.length : Nat))) = Value.bool false := by rw [decide_eq_false h421]
        refine wc_exit ?_
        refine then_exit ?_
        refine then_exit ?_
        refine inBlock_eq ?_
        refine then_normal ?_
        refine wc_seq ?_
        refine wc_region ?_
        refine wl_ok (r_assign (v := (.bool true)) rfl) ?_
        refine wl_nil ?_
        refine then_normal ?_
        refine wc_ret ?_
        refine fin1 (v := (.bool true)) Try.results33 rfl ?_
        exact ⟨ret_bool (decide_eq_true (take_all tk (by omega) (by omega))).symm, G417⟩

theorem eqInts_dec (x y : List Int) : eqInts x y = decide (x = y) := by
  have key : ∀ x y : List Int, allEq x y = true ∧ x.length = y.length ↔ x = y := by
    intro x
    induction x with
    | nil => intro y; cases y <;> simp [allEq]
    | cons a r ih =>
      intro y
      cases y with
      | nil => simp [allEq]
      | cons b s =>
        unfold allEq
        by_cases h : a = b
        · subst h; have := ih s; simp at this ⊢; rw [← this]
        · simp [h]
  unfold eqInts
  by_cases h : (x.length : Int) ≠ y.length
  · rw [if_pos h, eq_comm, decide_eq_false_iff_not]; rintro rfl; exact h rfl
  · rw [if_neg h]
    have h2 : x.length = y.length := by omega
    have := key x y
    by_cases e : x = y
    · rw [(this.2 e).1]; simp [e]
    · rw [decide_eq_false e]
      cases ha : allEq x y with
      | false => rfl
      | true => exact absurd (this.1 ⟨ha, h2⟩) e
theorem eqI_calls (M : List Nat) (w : World) (hL : LtM M w) (a b : Value) (x y : List Int) (ha : rSliceRd rInt w M a x) (hb : rSliceRd rInt w M b y) : Calls Try.prog 14 #[a, b] w (fun e w' => e = .returned (.bool (decide (x = y))) ∧ Grow w w') := by
  rw [← eqInts_dec]; exact equal_calls M w hL a b x y ha hb
theorem has_calls (M : List Nat) (w : World) (hL : LtM M w) (v : Value) (l : List Int) (c : Int) (hv : rSliceRd rInt w M v l) : Calls Try.prog 37 #[v, .int .i64 c] w
    (fun e w' => e = .returned (.bool (decide (c ∈ l))) ∧ Grow w w') := by
  refine calls_start (args := [v, (.int .i64 (c))]) Try.func37 rfl Try.ntmps37 (Nat.le_of_ble_eq_true rfl) ?_
  have hG : Grow w w := Keep.refl _ _
  have hl := hv.len_le
  refine wc_seq ?_
  refine wc_region ?_
  refine wl_ok (r_assign (v := (.bool false)) rfl) ?_
  refine wl_nil ?_
  refine then_normal ?_
  refine wc_seq ?_
  refine wc_region ?_
  refine wl_ok (r_move (v := v) rfl) ?_
  refine wl_ok (r_move (v := (.int .i64 (c))) rfl) ?_
  refine wl_callIn (args := [v, (.int .i64 (c))]) fnOk74 rfl rfl ?_
  refine calls_start (args := [v, (.int .i64 (c))]) Try.func74 rfl Try.ntmps74 (Nat.le_of_ble_eq_true rfl) ?_
  refine wc_seq ?_
  refine wc_region ?_
  refine wl_ok (r_assign (v := (.int .i64 (0))) rfl) ?_
  refine wl_nil ?_
  refine then_normal ?_
  refine wc_seq ?_
  refine wc_seq ?_
  refine wc_region ?_
  refine wl_ok (r_move (v := v) rfl) ?_
  refine wl_ok (r_len_rd (v := v) SliceOf24 rfl hv) ?_
  refine wl_ok (r_move (v := (.int .i64 (0))) rfl) ?_
  refine wl_nil ?_
  refine then_normal ?_
  refine wc_block ?_
  refine wc_loop (inl [4, 5, 8, 9, 10, 11, 12, 13, 14, 15, 16, 17, 18]) (σ := Nat) (fun k => [(8, (.int .i64 ((k : Nat))))]) (fun k wr => Grow w wr ∧ LtM M wr ∧ rSliceRd rInt wr M v l ∧ k ≤ l.length ∧ ¬ c ∈ l.take k) (fun k => l.length - k) (0) ⟨rfl, trivial⟩ ?_ ?_
  · exact ⟨hG, hL, hv, Nat.zero_le _, by simp⟩
  · rintro k w429 j430 ⟨G431, L432, s433, lk, tk⟩
    refine wc_seq ?_
    refine wc_region ?_
    refine wl_ok (r_lss (p := (k : Nat)) (q := (l.length : Nat)) rfl rfl) ?_
    refine wl_nil ?_
    refine then_normal ?_
    refine wc_seq ?_
    refine wc_ifd (p := ((k : Nat) : Int) < (l.length : Nat)) rfl (fun h434 => ?_) (fun h434 => ?_)
    · skip
      have qh434 : Value.bool (decide (((k : Nat) : Int) < (l.length : Nat))) = Value.bool true := by rw [decide_eq_true h434]
      refine wc_skip ?_
      refine then_normal ?_
      refine wc_seq ?_
      refine wc_block ?_
      refine wc_seq ?_
      refine wc_region ?_
      refine wl_ok (r_move (v := (.int .i64 ((k : Nat)))) rfl) ?_
      refine wl_ok (r_assign (v := (.int .i64 ((k : Nat)))) rfl) ?_
      refine wl_nil ?_
      refine then_normal ?_
      refine wc_seq ?_
      refine wc_region ?_
      refine wl_ok (r_move (v := (.int .i64 (c))) rfl) ?_
      refine wl_ok (r_move (v := v) rfl) ?_
      refine wl_ok (r_move (v := (.int .i64 ((k : Nat)))) rfl) ?_
      refine wl_indexN (k := k) (v := v) SliceOf24 rfl rfl s433 rfl (by omega) ?_
      intro p435 cs436 xp435 gp435 hp435 rp435
      obtain ⟨rfl, ip435⟩ := rp435
      refine wl_ok (r_loadP1 (p := p435) (v := (.int .i64 (xp435))) One3 rfl hp435) ?_
      refine wl_ok (r_eql (p := c) (q := xp435) rfl rfl) ?_
      refine wl_nil ?_
      refine then_normal ?_
      refine wc_ifd (p := (c : Int) = xp435) rfl (fun h437 => ?_) (fun h437 => ?_)
      · skip
        have qh437 : Value.bool (decide ((c : Int) = xp435)) = Value.bool true := by rw [decide_eq_true h437]
        refine wc_seq ?_
        refine wc_region ?_
        refine wl_ok (r_move (v := (.int .i64 ((k : Nat)))) rfl) ?_
        refine wl_ok (r_assign (v := (.int .i64 ((k : Nat)))) rfl) ?_
        refine wl_nil ?_
        refine then_normal ?_
        refine wc_ret ?_
        refine inBlock_ret ?_
        refine then_ret ?_
        refine then_ret ?_
        refine inBlock_ret ?_
        refine then_ret ?_
        refine fin1 (v := (.int .i64 ((k : Nat)))) Try.results74 rfl ?_
        refine ⟨_, rfl, ?_⟩
        refine wl_ok (r_geq (p := (k : Nat)) (q := 0) rfl rfl) ?_
        refine wl_ok (r_assign (v := (.bool (decide ((0 : Int) ≤ (k : Nat))))) rfl) ?_
        refine wl_nil ?_
        refine then_normal ?_
        refine wc_ret ?_
        refine fin1 (v := (.bool (decide ((0 : Int) ≤ (k : Nat))))) Try.results37 rfl ?_
        exact ⟨ret_bool ((decide_eq_true (by omega)).trans (decide_eq_true (show c ∈ l from h437 ▸ List.mem_of_getElem? gp435)).symm), G431⟩
      · skip
        have qh437 : Value.bool (decide ((c : Int) = xp435)) = Value.bool false := by rw [decide_eq_false h437]
        refine wc_skip ?_
        refine inBlock_normal ?_
        refine then_normal ?_
        refine wc_region ?_
        refine wl_ok (r_add (p := (k : Nat)) (q := 1) rfl rfl (by omega)) ?_
        refine wl_ok (r_move (v := (.int .i64 (((k : Nat) + 1)))) rfl) ?_
        refine wl_nil ?_
        refine then_loop ?_
        exact ⟨k + 1, _, rfl, (by repeat (first | (with_reducible exact Agr.hav _ _ _) | (with_reducible refine Agr.on ?_) | ((with_reducible refine Agr.hin ?_ ?_); rfl) | (with_reducible refine Agr.un ?_) | ((with_reducible refine Agr.os ?_ ?_); rfl) | ((with_reducible refine Agr.uc ?_ ?_); rfl))), ⟨rfl, trivial⟩, ⟨G431, L432, s433, by omega, (by rw [take_snoc gp435]; simp only [List.mem_append, List.mem_singleton]; exact fun h => h.elim tk h437)⟩, (by omega)⟩
    · skip
      have qh434 : Value.bool (decide (((k : Nat) : Int) < (l.length : Nat))) = Value.bool false := by rw [decide_eq_false h434]
      refine wc_exit ?_
      refine then_exit ?_
      refine then_exit ?_
      refine inBlock_eq ?_
      refine then_normal ?_
      refine wc_seq ?_
      refine wc_region ?_
      refine wl_ok (r_assign (v := (.int .i64 (-1))) rfl) ?_
      refine wl_nil ?_
      refine then_normal ?_
      refine wc_ret ?_
      refine fin1 (v := (.int .i64 (-1))) Try.results74 rfl ?_
      refine ⟨_, rfl, ?_⟩
      refine wl_ok (r_geq (p := -1) (q := 0) rfl rfl) ?_
      refine wl_ok (r_assign (v := (.bool (decide ((0 : Int) ≤ -1)))) rfl) ?_
      refine wl_nil ?_
      refine then_normal ?_
      refine wc_ret ?_
      refine fin1 (v := (.bool (decide ((0 : Int) ≤ -1)))) Try.results37 rfl ?_
      exact ⟨ret_bool ((decide_eq_false (by omega)).trans (decide_eq_false (fun h => by rw [List.take_of_length_le (by omega)] at tk; exact tk h)).symm), G431⟩

theorem met2_calls (M : List Nat) (w : World) (hL : LtM M w) (v : Value) (l : List (List Val)) (u : Value) (from_ : List Val) (hv : rSliceRd (rSlice rVal) w M v l) (hu : rSliceRd rVal w M u from_) (hall : checkAll l = 0) (hval : checkVals l.length from_ = 0) : Calls Try.prog 34 #[v, u] w
    (fun e w' => ∃ r, e = .returned r ∧ OwnSl rInt 3 w' M r (metL l from_) ∧ (∀ x ∈ ob r, w.heap.size ≤ x) ∧ Grow w w') := by
  refine calls_start (args := [v, u]) Try.func34 rfl Try.ntmps34 (Nat.le_of_ble_eq_true rfl) ?_
  have hG : Grow w w := Keep.refl _ _
  have hl := hv.len_le
  have hlu := hu.len_le
  have hl24 := checkAll_len hall
  refine wc_seq ?_
  refine wc_region ?_
  refine wl_ok (r_assign (v := (.slice none 0 0)) rfl) ?_
  refine wl_nil ?_
  refine then_normal ?_
  refine wc_seq ?_
  refine wc_region ?_
  refine wl_ok (r_assign (v := (.slice none 0 0)) rfl) ?_
  refine wl_nil ?_
  refine then_normal ?_
  refine wc_seq ?_
  refine wc_region ?_
  refine wl_ok (r_move (v := u) rfl) ?_
  refine wl_ok (r_assign (v := u) rfl) ?_
  refine wl_nil ?_
  refine then_normal ?_
  refine wc_seq ?_
  refine wc_seq ?_
  refine wc_region ?_
  refine wl_ok (r_assign (v := (.int .i64 (-1))) rfl) ?_
  refine wl_nil ?_
  refine then_normal ?_
  refine wc_block ?_
  refine wc_loop (inl [5, 6, 7, 9, 11, 12, 13, 14, 15, 16, 17, 18, 19, 20, 21, 22, 23, 24, 25, 26, 27, 28, 29, 30, 31, 32, 33, 34, 35, 36, 37, 38, 39, 40, 41, 42, 43, 44, 45, 46, 47]) (σ := Nat × List Int × Value × Value) (fun (j, o, v1, mv) => [(7, (.int .i64 (((j : Nat) : Int) - 1))), (5, v1), (6, mv)]) (fun (j, o, v1, mv) wr => Grow w wr ∧ LtM (ob v1 ++ M) wr ∧ rSliceRd (rSlice rVal) wr (ob v1 ++ M) v l ∧ rSliceRd rVal wr (ob v1 ++ M) u from_ ∧ OwnSl rInt 3 wr M v1 o ∧ (∀ x ∈ ob v1, w.heap.size ≤ x) ∧ j ≤ o.length + 1 ∧ metGo l from_ o j = metL l from_ ∧ GoodR l.length o ∧ (j = 0 → mv = u)) (fun (j, o, v1, mv) => l.length + 1 - j) ((0, [], .slice none 0 0, u)) ⟨rfl, rfl, rfl, trivial⟩ ?_ ?_
  · exact ⟨hG, hL, hv, hu, OwnSl.nil, fresh_nil, Nat.zero_le _, rfl, good_nil, fun _ => rfl⟩
  · rintro ⟨j, o, v1, mv⟩ w438 j439 ⟨G440, L441, s442, s443, o444, z445, lj, tj, hgood, hmv⟩
    have hle := hgood.le
    refine wc_seq ?_
    refine wc_seq ?_
    refine wc_region ?_
    refine wl_ok (r_move (v := (.int .i64 (((j : Nat) : Int) - 1))) rfl) ?_
    refine wl_ok (r_move (v := v1) rfl) ?_
    refine wl_ok (r_len_rd (v := v1) SliceOf24 rfl o444.rd) ?_
    refine wl_ok (r_lss (p := ((j : Nat) : Int) - 1) (q := (o.length : Nat)) rfl rfl) ?_
    refine wl_nil ?_
    refine then_normal ?_
    refine wc_ifd (p := (((j : Nat) : Int) - 1 : Int) < (o.length : Nat)) rfl (fun h446 => ?_) (fun h446 => ?_)
    · skip
      have qh446 : Value.bool (decide ((((j : Nat) : Int) - 1 : Int) < (o.length : Nat))) = Value.bool true := by rw [decide_eq_true h446]
      refine wc_skip ?_
      refine then_normal ?_
      refine wc_seq ?_
      refine wc_block ?_
      refine wc_seq ?_
      refine wc_seq ?_
      refine wc_region ?_
      refine wl_ok (r_move (v := (.int .i64 (((j : Nat) : Int) - 1))) rfl) ?_
      refine wl_ok (r_geq (p := ((j : Nat) : Int) - 1) (q := 0) rfl rfl) ?_
      refine wl_nil ?_
      refine then_normal ?_
      refine wc_ifd (p := (0 : Int) ≤ ((j : Nat) : Int) - 1) rfl (fun h447 => ?_) (fun h447 => ?_)
      · skip
        have qh447 : Value.bool (decide ((0 : Int) ≤ ((j : Nat) : Int) - 1)) = Value.bool true := by rw [decide_eq_true h447]
        obtain ⟨i, hji⟩ : ∃ i, j = i + 1 := ⟨j - 1, by omega⟩
        refine wc_region ?_
        refine wl_ok (r_move (v := v) rfl) ?_
        refine wl_ok (r_move (v := v1) rfl) ?_
        refine wl_ok (r_move (v := (.int .i64 (((j : Nat) : Int) - 1))) rfl) ?_
        refine wl_index (k := ((j : Nat) : Int) - 1) (v := v1) SliceOf24 rfl rfl o444.rd rfl (by omega) (by omega) ?_
        intro p448 cs449 xp448 gp448 hp448 rp448
        obtain ⟨rfl, ip448⟩ := rp448
        have hbxp448 := hgood.get gp448
        have gi : o[i]? = some xp448 := by rw [← gp448]; congr 1; omega
        refine wl_ok (r_loadP1 (p := p448) (v := (.int .i64 (xp448))) One3 rfl hp448) ?_
        refine wl_index (k := xp448) (v := v) SliceOf27 rfl rfl s442 rfl (by omega) (by omega) ?_
        intro p450 cs451 xp450 gp450 hp450 rp450
        obtain ⟨vp450, rfl, sp450⟩ := rp450
        have zp450 := sp450.len_le
        have hlm := hl
        refine wl_ok (r_loadP1 (p := p450) (v := vp450) One28 rfl hp450) ?_
        refine wl_ok (r_assign (v := vp450) rfl) ?_
        refine wl_nil ?_
        refine then_normal ?_
        refine wc_seq ?_
        refine wc_region ?_
        refine wl_ok (r_move (v := vp450) rfl) ?_
        refine wl_ok (r_len_rd (v := vp450) SliceOf28 rfl sp450) ?_
        refine wl_ok (r_move (v := (.int .i64 (0))) rfl) ?_
        refine wl_nil ?_
        refine then_normal ?_
        refine wc_block ?_
        refine wc_loop (inl [5, 9, 28, 29, 30, 31, 32, 33, 34, 35, 36, 37, 38, 39, 40, 41, 42, 43, 44, 45, 46, 47]) (σ := Nat × List Int × Value) (fun (i2, p, q) => [(28, (.int .i64 ((i2 : Nat)))), (5, q)]) (fun (i2, p, q) wr => Grow w wr ∧ LtM (ob q ++ M) wr ∧ rSliceRd (rSlice rVal) wr (ob q ++ M) v l ∧ rSliceRd rVal wr (ob q ++ M) u from_ ∧ rSliceRd rVal wr (ob q ++ M) vp450 xp450 ∧ OwnSl rInt 3 wr M q p ∧ (∀ x ∈ ob q, w.heap.size ≤ x) ∧ i2 ≤ xp450.length ∧ meetAll p (xp450.drop i2) = meetAll o xp450 ∧ GoodR l.length p ∧ o.length ≤ p.length) (fun (i2, p, q) => xp450.length - i2) ((0, o, v1)) ⟨rfl, rfl, trivial⟩ ?_ ?_
        · exact ⟨G440, L441, s442, s443, sp450, o444, z445, Nat.zero_le _, rfl, hgood, Nat.le_refl _⟩
        · rintro ⟨i2, p, q⟩ w452 j453 ⟨G454, L455, s456, s457, s458, o459, z460, li, ti, hgood3, hpl⟩
          have hle3 := hgood3.le
          refine wc_seq ?_
          refine wc_region ?_
          refine wl_ok (r_lss (p := (i2 : Nat)) (q := (xp450.length : Nat)) rfl rfl) ?_
          refine wl_nil ?_
          refine then_normal ?_
          refine wc_seq ?_
          refine wc_ifd (p := ((i2 : Nat) : Int) < (xp450.length : Nat)) rfl (fun h461 => ?_) (fun h461 => ?_)
          · skip
            have qh461 : Value.bool (decide (((i2 : Nat) : Int) < (xp450.length : Nat))) = Value.bool true := by rw [decide_eq_true h461]
            refine wc_skip ?_
            refine then_normal ?_
            refine wc_seq ?_
            refine wc_block ?_
            refine wc_seq ?_
            refine wc_region ?_
            refine wl_indexN (k := i2) (v := vp450) SliceOf28 rfl rfl s458 rfl (by omega) ?_
            intro p462 cs463 xp462 gp462 hp462 rp462
            obtain ⟨rfl, ip462xkind, ip462xn⟩ := rVal_open rp462
            refine wl_ok (r_loadPN (p := p462) (cs := [(.int .i64 (xp462.kind)), (.int .i64 (xp462.n))]) Many34 rfl hp462 rfl) ?_
            refine wl_allocN Many34 ?_
            intro w464 b465 eb465 kb465 Bb465
            have lb465 : w.heap.size ≤ b465 := by have := G454.size; omega
            replace s456 := s456.go (kb465.weaken (fun _ h => absurd h List.not_mem_nil)) (mem_new eb465)
            replace s457 := s457.go (kb465.weaken (fun _ h => absurd h List.not_mem_nil)) (mem_new eb465)
            replace s458 := s458.go (kb465.weaken (fun _ h => absurd h List.not_mem_nil)) (mem_new eb465)
            replace o459 := o459.go (kb465.weaken (fun _ h => absurd h List.not_mem_nil)) (mem_new eb465)
            replace G454 := G454.grow kb465
            replace L455 := L455.grow kb465
            replace L455 := L455.cons Bb465.lt
            refine wl_storeN (b := b465) (o := 0) (vs := [(.int .i64 (xp462.kind)), (.int .i64 (xp462.n))]) Many34 rfl Bb465 rfl rfl (by simp) (by simp [Value.oneCell']) ?_
            intro w466 k467 B468
            replace B468 : Blk w466 b465 [(.int .i64 (xp462.kind)), (.int .i64 (xp462.n))] := B468
            replace s456 := s456.go (Keep.one k467 (by simp)) (fun _ h _ => h)
            replace s457 := s457.go (Keep.one k467 (by simp)) (fun _ h _ => h)
            replace s458 := s458.go (Keep.one k467 (by simp)) (fun _ h _ => h)
            replace o459 := o459.go (Keep.one k467 (by simp)) (fun _ h _ => h)
            replace G454 := G454.stepF k467 (by simp; omega)
            replace L455 := L455.grow k467
            refine wl_nil ?_
            refine then_normal ?_
            refine wc_seq ?_
            refine wc_region ?_
            refine wl_ok (r_fieldAddr (b := b465) (o := 0) Fld34x0 rfl) ?_
            refine wl_ok (r_loadB1 (b := b465) (o := 0) (v := (.int .i64 (xp462.kind))) One3 rfl B468 rfl) ?_
            refine wl_ok (r_eql (p := xp462.kind) (q := 2) rfl rfl) ?_
            refine wl_ok (r_move (v := (.bool (decide ((xp462.kind : Int) = 2)))) rfl) ?_
            refine (Decidable.em ((xp462.kind : Int) = 2)).elim (fun h469 => ?_) (fun h469 => ?_)
            · skip
              have qh469 : Value.bool (decide ((xp462.kind : Int) = 2)) = Value.bool true := by rw [decide_eq_true h469]
              refine wl_on rfl qh469 ?_
              refine wl_ok (r_move (v := q) rfl) ?_
              refine wl_on rfl qh469 ?_
              refine wl_ok (r_fieldAddr (b := b465) (o := 0) Fld34x1 rfl) ?_
              refine wl_on rfl qh469 ?_
              refine wl_ok (r_loadB1 (b := b465) (o := 1) (v := (.int .i64 (xp462.n))) One3 rfl B468 rfl) ?_
              refine wl_on rfl qh469 ?_
              refine wl_call (args := [q, (.int .i64 (xp462.n))]) fnOk37 rfl rfl (has_calls [] _ (fun x hx => absurd hx List.not_mem_nil) q p (xp462.n) o459.rd.bare) ?_
              rintro _ w470 ⟨rfl, k471⟩
              refine ⟨_, rfl, ?_⟩
              replace B468 := B468.grow k471
              replace s456 := s456.go (k471.weaken (fun _ h => absurd h List.not_mem_nil)) (fun _ h _ => h)
              replace s457 := s457.go (k471.weaken (fun _ h => absurd h List.not_mem_nil)) (fun _ h _ => h)
              replace s458 := s458.go (k471.weaken (fun _ h => absurd h List.not_mem_nil)) (fun _ h _ => h)
              replace o459 := o459.go (k471.weaken (fun _ h => absurd h List.not_mem_nil)) (fun _ h _ => h)
              replace G454 := G454.grow k471
              replace L455 := L455.grow k471
              refine wl_on rfl qh469 ?_
              refine wl_ok (r_notd (p := (xp462.n : Int) ∈ p) rfl) ?_
              refine wl_ok (r_pick (b := true) (v := (.bool (decide (¬ ((xp462.n : Int) ∈ p))))) qh469 rfl) ?_
              refine wl_nil ?_
              refine then_normal ?_
              refine wc_ifd (p := ¬ ((xp462.n : Int) ∈ p)) rfl (fun h472 => ?_) (fun h472 => ?_)
              · skip
                have qh472 : Value.bool (decide (¬ ((xp462.n : Int) ∈ p))) = Value.bool true := by rw [decide_eq_true h472]
                have h472i := h472
                have qh472i : Value.bool (decide ((xp462.n : Int) ∈ p)) = Value.bool false := by rw [decide_eq_false h472i]
                refine wc_region ?_
                refine wl_ok (r_move (v := q) rfl) ?_
                refine wl_ok (r_fieldAddr (b := b465) (o := 0) Fld34x1 rfl) ?_
                refine wl_ok (r_loadB1 (b := b465) (o := 1) (v := (.int .i64 (xp462.n))) One3 rfl B468 rfl) ?_
                refine wl_buildSlice (R := rInt) (M := (b465 :: (ob q ++ M))) (vs := [(.int .i64 (xp462.n))]) (xs := [xp462.n]) ElemOf24 rfl rfl rfl ⟨⟨rfl, (by omega)⟩, trivial⟩ L455 (by decide) ?_
                intro w473 v474 k475 ov474 uv474
                have z476 : ∀ x ∈ ob v474, w.heap.size ≤ x := fresh_new G454.size rfl uv474
                replace B468 := B468.grow k475
                replace s456 := s456.go (k475.weaken (fun _ h => absurd h List.not_mem_nil)) (fun _ h _ => h)
                replace s457 := s457.go (k475.weaken (fun _ h => absurd h List.not_mem_nil)) (fun _ h _ => h)
                replace s458 := s458.go (k475.weaken (fun _ h => absurd h List.not_mem_nil)) (fun _ h _ => h)
                replace o459 := o459.go (k475.weaken (fun _ h => absurd h List.not_mem_nil)) (fun _ h _ => h)
                replace G454 := G454.grow k475
                replace L455 := L455.grow k475
                refine wl_append (R := rInt) (v := q) (u := v474) (l := p) (m := ([xp462.n] : List (Int))) (M := (b465 :: M)) ElemOf24 rfl rfl o459 rfl (ov474.rd.go (Keep.refl _ _) (fun x hx _ => mem_rot [b465] hx)) (fun x hx => L455 x (mem_ins (ob q) [b465] hx)) (by first | omega | (simp; omega)) (by first | omega | (simp; omega)) ?_
                intro v477 w478 ov477 k479 uv477
                have z480 : ∀ x ∈ ob v477, w.heap.size ≤ x := fresh_app z460 G454.size uv477
                replace B468 := B468.keep k479 (fun hb => o459.apart _ hb (by simp))
                replace s456 := s456.go (k479.weaken (fun x hx _ => by simp [hx])) (mem_mid [b465] uv477)
                replace s457 := s457.go (k479.weaken (fun x hx _ => by simp [hx])) (mem_mid [b465] uv477)
                replace s458 := s458.go (k479.weaken (fun x hx _ => by simp [hx])) (mem_mid [b465] uv477)
                replace ov474 := ov474.go (k479.weaken (fun x hx _ => by simp [hx])) (mem_mid [b465] uv477)
                replace G454 := G454.stepF k479 z460
                replace L455 := L455.grow k479
                replace L455 := L455.swap [b465] ov477.lt
                refine wl_ok (r_assign (v := v477) rfl) ?_
                refine wl_nil ?_
                refine inBlock_normal ?_
                refine then_normal ?_
                refine wc_region ?_
                refine wl_ok (r_add (p := (i2 : Nat)) (q := 1) rfl rfl (by omega)) ?_
                refine wl_ok (r_move (v := (.int .i64 (((i2 : Nat) + 1)))) rfl) ?_
                refine wl_nil ?_
                refine then_loop ?_
                have t481 := ti
                rw [drop_some gp462] at t481
                simp only [meetAll, meet1, eq_true h469, eq_false h472i, if_true, if_false, ne_eq, not_true_eq_false, not_false_eq_true, eq_self] at t481
                exact ⟨(i2 + 1, (p ++ ([xp462.n] : List (Int))), v477), _, rfl, (by repeat (first | (with_reducible exact Agr.hav _ _ _) | (with_reducible refine Agr.on ?_) | ((with_reducible refine Agr.hin ?_ ?_); rfl) | (with_reducible refine Agr.un ?_) | ((with_reducible refine Agr.os ?_ ?_); rfl) | ((with_reducible refine Agr.uc ?_ ?_); rfl))), ⟨rfl, rfl, trivial⟩, ⟨G454, (fun x hx => L455 x (List.mem_cons_of_mem _ hx)), (s456.go (Keep.refl _ _) (fun x hx _ => (List.mem_cons_of_mem _ hx))), (s457.go (Keep.refl _ _) (fun x hx _ => (List.mem_cons_of_mem _ hx))), (s458.go (Keep.refl _ _) (fun x hx _ => (List.mem_cons_of_mem _ hx))), (ov477.go (Keep.refl _ _) (fun x hx _ => (List.mem_cons_of_mem _ hx))), z480, by omega, t481, (good_app hgood3 h472i (valid_at (checkAll_at hall gp450) gp462 h469)), by simp; omega⟩, (by dsimp only; omega)⟩
              · skip
                have qh472 : Value.bool (decide (¬ ((xp462.n : Int) ∈ p))) = Value.bool false := by rw [decide_eq_false h472]
                replace h472 := Decidable.not_not.1 h472
                have h472i := h472
                have qh472i : Value.bool (decide ((xp462.n : Int) ∈ p)) = Value.bool true := by rw [decide_eq_true h472i]
                refine wc_skip ?_
                refine inBlock_normal ?_
                refine then_normal ?_
                refine wc_region ?_
                refine wl_ok (r_add (p := (i2 : Nat)) (q := 1) rfl rfl (by omega)) ?_
                refine wl_ok (r_move (v := (.int .i64 (((i2 : Nat) + 1)))) rfl) ?_
                refine wl_nil ?_
                refine then_loop ?_
                have t482 := ti
                rw [drop_some gp462] at t482
                simp only [meetAll, meet1, eq_true h469, eq_true h472i, if_true, if_false, ne_eq, not_true_eq_false, not_false_eq_true, eq_self] at t482
                exact ⟨(i2 + 1, p, q), _, rfl, (by repeat (first | (with_reducible exact Agr.hav _ _ _) | (with_reducible refine Agr.on ?_) | ((with_reducible refine Agr.hin ?_ ?_); rfl) | (with_reducible refine Agr.un ?_) | ((with_reducible refine Agr.os ?_ ?_); rfl) | ((with_reducible refine Agr.uc ?_ ?_); rfl))), ⟨rfl, rfl, trivial⟩, ⟨G454, (fun x hx => L455 x (List.mem_cons_of_mem _ hx)), (s456.go (Keep.refl _ _) (fun x hx _ => (List.mem_cons_of_mem _ hx))), (s457.go (Keep.refl _ _) (fun x hx _ => (List.mem_cons_of_mem _ hx))), (s458.go (Keep.refl _ _) (fun x hx _ => (List.mem_cons_of_mem _ hx))), (o459.go (Keep.refl _ _) (fun x hx _ => (List.mem_cons_of_mem _ hx))), z460, by omega, t482, hgood3, hpl⟩, (by dsimp only; omega)⟩
            · skip
              have qh469 : Value.bool (decide ((xp462.kind : Int) = 2)) = Value.bool false := by rw [decide_eq_false h469]
              refine wl_off (b' := false) rfl qh469 rfl ?_
              refine wl_off (b' := false) rfl qh469 rfl ?_
              refine wl_off (b' := false) rfl qh469 rfl ?_
              refine wl_off (b' := false) rfl qh469 rfl ?_
              refine wl_off (b' := false) rfl qh469 rfl ?_
              refine wl_ok (r_pick (b := false) (v := (.bool false)) qh469 rfl) ?_
              refine wl_nil ?_
              refine then_normal ?_
              refine wc_iff rfl ?_
              refine wc_skip ?_
              refine inBlock_normal ?_
              refine then_normal ?_
              refine wc_region ?_
              refine wl_ok (r_add (p := (i2 : Nat)) (q := 1) rfl rfl (by omega)) ?_
              refine wl_ok (r_move (v := (.int .i64 (((i2 : Nat) + 1)))) rfl) ?_
              refine wl_nil ?_
              refine then_loop ?_
              have t483 := ti
              rw [drop_some gp462] at t483
              simp only [meetAll, meet1, eq_false h469, if_true, if_false, ne_eq, not_true_eq_false, not_false_eq_true, eq_self] at t483
              exact ⟨(i2 + 1, p, q), _, rfl, (by repeat (first | (with_reducible exact Agr.hav _ _ _) | (with_reducible refine Agr.on ?_) | ((with_reducible refine Agr.hin ?_ ?_); rfl) | (with_reducible refine Agr.un ?_) | ((with_reducible refine Agr.os ?_ ?_); rfl) | ((with_reducible refine Agr.uc ?_ ?_); rfl))), ⟨rfl, rfl, trivial⟩, ⟨G454, (fun x hx => L455 x (List.mem_cons_of_mem _ hx)), (s456.go (Keep.refl _ _) (fun x hx _ => (List.mem_cons_of_mem _ hx))), (s457.go (Keep.refl _ _) (fun x hx _ => (List.mem_cons_of_mem _ hx))), (s458.go (Keep.refl _ _) (fun x hx _ => (List.mem_cons_of_mem _ hx))), (o459.go (Keep.refl _ _) (fun x hx _ => (List.mem_cons_of_mem _ hx))), z460, by omega, t483, hgood3, hpl⟩, (by dsimp only; omega)⟩
          · skip
            have qh461 : Value.bool (decide (((i2 : Nat) : Int) < (xp450.length : Nat))) = Value.bool false := by rw [decide_eq_false h461]
            refine wc_exit ?_
            refine then_exit ?_
            refine then_exit ?_
            have t484 := ti
            rw [drop_done h461] at t484
            simp only [meetAll] at t484
            have hle2 : j + 1 ≤ p.length + 1 := by omega
            have hnew : metGo l from_ p (j + 1) = metL l from_ := by rw [t484, ← metGo_step hgood hji (by omega) gi gp450]; exact tj
            have hgoodn := hgood3
            refine inBlock_eq ?_
            refine inBlock_normal ?_
            refine then_normal ?_
            refine wc_region ?_
            refine wl_ok (r_move (v := (.int .i64 (((j : Nat) : Int) - 1))) rfl) ?_
            refine wl_ok (r_add (p := ((j : Nat) : Int) - 1) (q := 1) rfl rfl (by omega)) ?_
            refine wl_ok (r_assign (v := (.int .i64 ((((j : Nat) : Int) - 1 + 1)))) rfl) ?_
            refine wl_nil ?_
            refine then_loop ?_
            exact ⟨(j + 1, p, q, vp450), _, rfl, (by repeat (first | (with_reducible exact Agr.hav _ _ _) | (with_reducible refine Agr.on ?_) | ((with_reducible refine Agr.hin ?_ ?_); rfl) | (with_reducible refine Agr.un ?_) | ((with_reducible refine Agr.os ?_ ?_); rfl) | ((with_reducible refine Agr.uc ?_ ?_); rfl))), ⟨(by show Value.int .i64 ((j : Int) - 1 + 1) = Value.int .i64 (((j + 1 : Nat) : Int) - 1); congr 1; omega), rfl, rfl, trivial⟩, ⟨G454, L455, s456, s457, o459, z460, by omega, hnew, hgoodn, (fun h => absurd h (Nat.succ_ne_zero _))⟩, (by dsimp only; omega)⟩
      · skip
        have qh447 : Value.bool (decide ((0 : Int) ≤ ((j : Nat) : Int) - 1)) = Value.bool false := by rw [decide_eq_false h447]
        have hj0 : j = 0 := by omega
        have smv : rSliceRd rVal w438 (ob v1 ++ M) mv from_ := by rw [hmv hj0]; exact s443
        have hlm := hlu
        refine wc_skip ?_
        refine then_normal ?_
        refine wc_seq ?_
        refine wc_region ?_
        refine wl_ok (r_move (v := mv) rfl) ?_
        refine wl_ok (r_len_rd (v := mv) SliceOf28 rfl smv) ?_
        refine wl_ok (r_move (v := (.int .i64 (0))) rfl) ?_
        refine wl_nil ?_
        refine then_normal ?_
        refine wc_block ?_
        refine wc_loop (inl [5, 9, 28, 29, 30, 31, 32, 33, 34, 35, 36, 37, 38, 39, 40, 41, 42, 43, 44, 45, 46, 47]) (σ := Nat × List Int × Value) (fun (i2, p, q) => [(28, (.int .i64 ((i2 : Nat)))), (5, q)]) (fun (i2, p, q) wr => Grow w wr ∧ LtM (ob q ++ M) wr ∧ rSliceRd (rSlice rVal) wr (ob q ++ M) v l ∧ rSliceRd rVal wr (ob q ++ M) u from_ ∧ rSliceRd rVal wr (ob q ++ M) mv from_ ∧ OwnSl rInt 3 wr M q p ∧ (∀ x ∈ ob q, w.heap.size ≤ x) ∧ i2 ≤ from_.length ∧ meetAll p (from_.drop i2) = meetAll o from_ ∧ GoodR l.length p ∧ o.length ≤ p.length) (fun (i2, p, q) => from_.length - i2) ((0, o, v1)) ⟨rfl, rfl, trivial⟩ ?_ ?_
        · exact ⟨G440, L441, s442, s443, smv, o444, z445, Nat.zero_le _, rfl, hgood, Nat.le_refl _⟩
        · rintro ⟨i2, p, q⟩ w485 j486 ⟨G487, L488, s489, s490, s491, o492, z493, li, ti, hgood3, hpl⟩
          have hle3 := hgood3.le
          refine wc_seq ?_
          refine wc_region ?_
          refine wl_ok (r_lss (p := (i2 : Nat)) (q := (from_.length : Nat)) rfl rfl) ?_
          refine wl_nil ?_
          refine then_normal ?_
          refine wc_seq ?_
          refine wc_ifd (p := ((i2 : Nat) : Int) < (from_.length : Nat)) rfl (fun h494 => ?_) (fun h494 => ?_)
          · skip
            have qh494 : Value.bool (decide (((i2 : Nat) : Int) < (from_.length : Nat))) = Value.bool true := by rw [decide_eq_true h494]
            refine wc_skip ?_
            refine then_normal ?_
            refine wc_seq ?_
            refine wc_block ?_
            refine wc_seq ?_
            refine wc_region ?_
            refine wl_indexN (k := i2) (v := mv) SliceOf28 rfl rfl s491 rfl (by omega) ?_
            intro p495 cs496 xp495 gp495 hp495 rp495
            obtain ⟨rfl, ip495xkind, ip495xn⟩ := rVal_open rp495
            refine wl_ok (r_loadPN (p := p495) (cs := [(.int .i64 (xp495.kind)), (.int .i64 (xp495.n))]) Many34 rfl hp495 rfl) ?_
            refine wl_allocN Many34 ?_
            intro w497 b498 eb498 kb498 Bb498
            have lb498 : w.heap.size ≤ b498 := by have := G487.size; omega
            replace s489 := s489.go (kb498.weaken (fun _ h => absurd h List.not_mem_nil)) (mem_new eb498)
            replace s490 := s490.go (kb498.weaken (fun _ h => absurd h List.not_mem_nil)) (mem_new eb498)
            replace s491 := s491.go (kb498.weaken (fun _ h => absurd h List.not_mem_nil)) (mem_new eb498)
            replace o492 := o492.go (kb498.weaken (fun _ h => absurd h List.not_mem_nil)) (mem_new eb498)
            replace G487 := G487.grow kb498
            replace L488 := L488.grow kb498
            replace L488 := L488.cons Bb498.lt
            refine wl_storeN (b := b498) (o := 0) (vs := [(.int .i64 (xp495.kind)), (.int .i64 (xp495.n))]) Many34 rfl Bb498 rfl rfl (by simp) (by simp [Value.oneCell']) ?_
            intro w499 k500 B501
            replace B501 : Blk w499 b498 [(.int .i64 (xp495.kind)), (.int .i64 (xp495.n))] := B501
            replace s489 := s489.go (Keep.one k500 (by simp)) (fun _ h _ => h)
            replace s490 := s490.go (Keep.one k500 (by simp)) (fun _ h _ => h)
            replace s491 := s491.go (Keep.one k500 (by simp)) (fun _ h _ => h)
            replace o492 := o492.go (Keep.one k500 (by simp)) (fun _ h _ => h)
            replace G487 := G487.stepF k500 (by simp; omega)
            replace L488 := L488.grow k500
            refine wl_nil ?_
            refine then_normal ?_
            refine wc_seq ?_
            refine wc_region ?_
            refine wl_ok (r_fieldAddr (b := b498) (o := 0) Fld34x0 rfl) ?_
            refine wl_ok (r_loadB1 (b := b498) (o := 0) (v := (.int .i64 (xp495.kind))) One3 rfl B501 rfl) ?_
            refine wl_ok (r_eql (p := xp495.kind) (q := 2) rfl rfl) ?_
            refine wl_ok (r_move (v := (.bool (decide ((xp495.kind : Int) = 2)))) rfl) ?_
            refine (Decidable.em ((xp495.kind : Int) = 2)).elim (fun h502 => ?_) (fun h502 => ?_)
            · skip
              have qh502 : Value.bool (decide ((xp495.kind : Int) = 2)) = Value.bool true := by rw [decide_eq_true h502]
              refine wl_on rfl qh502 ?_
              refine wl_ok (r_move (v := q) rfl) ?_
              refine wl_on rfl qh502 ?_
              refine wl_ok (r_fieldAddr (b := b498) (o := 0) Fld34x1 rfl) ?_
              refine wl_on rfl qh502 ?_
              refine wl_ok (r_loadB1 (b := b498) (o := 1) (v := (.int .i64 (xp495.n))) One3 rfl B501 rfl) ?_
              refine wl_on rfl qh502 ?_
              refine wl_call (args := [q, (.int .i64 (xp495.n))]) fnOk37 rfl rfl (has_calls [] _ (fun x hx => absurd hx List.not_mem_nil) q p (xp495.n) o492.rd.bare) ?_
              rintro _ w503 ⟨rfl, k504⟩
              refine ⟨_, rfl, ?_⟩
              replace B501 := B501.grow k504
              replace s489 := s489.go (k504.weaken (fun _ h => absurd h List.not_mem_nil)) (fun _ h _ => h)
              replace s490 := s490.go (k504.weaken (fun _ h => absurd h List.not_mem_nil)) (fun _ h _ => h)
              replace s491 := s491.go (k504.weaken (fun _ h => absurd h List.not_mem_nil)) (fun _ h _ => h)
              replace o492 := o492.go (k504.weaken (fun _ h => absurd h List.not_mem_nil)) (fun _ h _ => h)
              replace G487 := G487.grow k504
              replace L488 := L488.grow k504
              refine wl_on rfl qh502 ?_
              refine wl_ok (r_notd (p := (xp495.n : Int) ∈ p) rfl) ?_
              refine wl_ok (r_pick (b := true) (v := (.bool (decide (¬ ((xp495.n : Int) ∈ p))))) qh502 rfl) ?_
              refine wl_nil ?_
              refine then_normal ?_
              refine wc_ifd (p := ¬ ((xp495.n : Int) ∈ p)) rfl (fun h505 => ?_) (fun h505 => ?_)
              · skip
                have qh505 : Value.bool (decide (¬ ((xp495.n : Int) ∈ p))) = Value.bool true := by rw [decide_eq_true h505]
                have h505i := h505
                have qh505i : Value.bool (decide ((xp495.n : Int) ∈ p)) = Value.bool false := by rw [decide_eq_false h505i]
                refine wc_region ?_
                refine wl_ok (r_move (v := q) rfl) ?_
                refine wl_ok (r_fieldAddr (b := b498) (o := 0) Fld34x1 rfl) ?_
                refine wl_ok (r_loadB1 (b := b498) (o := 1) (v := (.int .i64 (xp495.n))) One3 rfl B501 rfl) ?_
                refine wl_buildSlice (R := rInt) (M := (b498 :: (ob q ++ M))) (vs := [(.int .i64 (xp495.n))]) (xs := [xp495.n]) ElemOf24 rfl rfl rfl ⟨⟨rfl, (by omega)⟩, trivial⟩ L488 (by decide) ?_
                intro w506 v507 k508 ov507 uv507
                have z509 : ∀ x ∈ ob v507, w.heap.size ≤ x := fresh_new G487.size rfl uv507
                replace B501 := B501.grow k508
                replace s489 := s489.go (k508.weaken (fun _ h => absurd h List.not_mem_nil)) (fun _ h _ => h)
                replace s490 := s490.go (k508.weaken (fun _ h => absurd h List.not_mem_nil)) (fun _ h _ => h)
                replace s491 := s491.go (k508.weaken (fun _ h => absurd h List.not_mem_nil)) (fun _ h _ => h)
                replace o492 := o492.go (k508.weaken (fun _ h => absurd h List.not_mem_nil)) (fun _ h _ => h)
                replace G487 := G487.grow k508
                replace L488 := L488.grow k508
                refine wl_append (R := rInt) (v := q) (u := v507) (l := p) (m := ([xp495.n] : List (Int))) (M := (b498 :: M)) ElemOf24 rfl rfl o492 rfl (ov507.rd.go (Keep.refl _ _) (fun x hx _ => mem_rot [b498] hx)) (fun x hx => L488 x (mem_ins (ob q) [b498] hx)) (by first | omega | (simp; omega)) (by first | omega | (simp; omega)) ?_
                intro v510 w511 ov510 k512 uv510
                have z513 : ∀ x ∈ ob v510, w.heap.size ≤ x := fresh_app z493 G487.size uv510
                replace B501 := B501.keep k512 (fun hb => o492.apart _ hb (by simp))
                replace s489 := s489.go (k512.weaken (fun x hx _ => by simp [hx])) (mem_mid [b498] uv510)
                replace s490 := s490.go (k512.weaken (fun x hx _ => by simp [hx])) (mem_mid [b498] uv510)
                replace s491 := s491.go (k512.weaken (fun x hx _ => by simp [hx])) (mem_mid [b498] uv510)
                replace ov507 := ov507.go (k512.weaken (fun x hx _ => by simp [hx])) (mem_mid [b498] uv510)
                replace G487 := G487.stepF k512 z493
                replace L488 := L488.grow k512
                replace L488 := L488.swap [b498] ov510.lt
                refine wl_ok (r_assign (v := v510) rfl) ?_
                refine wl_nil ?_
                refine inBlock_normal ?_
                refine then_normal ?_
                refine wc_region ?_
                refine wl_ok (r_add (p := (i2 : Nat)) (q := 1) rfl rfl (by omega)) ?_
                refine wl_ok (r_move (v := (.int .i64 (((i2 : Nat) + 1)))) rfl) ?_
                refine wl_nil ?_
                refine then_loop ?_
                have t514 := ti
                rw [drop_some gp495] at t514
                simp only [meetAll, meet1, eq_true h502, eq_false h505i, if_true, if_false, ne_eq, not_true_eq_false, not_false_eq_true, eq_self] at t514
                exact ⟨(i2 + 1, (p ++ ([xp495.n] : List (Int))), v510), _, rfl, (by repeat (first | (with_reducible exact Agr.hav _ _ _) | (with_reducible refine Agr.on ?_) | ((with_reducible refine Agr.hin ?_ ?_); rfl) | (with_reducible refine Agr.un ?_) | ((with_reducible refine Agr.os ?_ ?_); rfl) | ((with_reducible refine Agr.uc ?_ ?_); rfl))), ⟨rfl, rfl, trivial⟩, ⟨G487, (fun x hx => L488 x (List.mem_cons_of_mem _ hx)), (s489.go (Keep.refl _ _) (fun x hx _ => (List.mem_cons_of_mem _ hx))), (s490.go (Keep.refl _ _) (fun x hx _ => (List.mem_cons_of_mem _ hx))), (s491.go (Keep.refl _ _) (fun x hx _ => (List.mem_cons_of_mem _ hx))), (ov510.go (Keep.refl _ _) (fun x hx _ => (List.mem_cons_of_mem _ hx))), z513, by omega, t514, (good_app hgood3 h505i (valid_at hval gp495 h502)), by simp; omega⟩, (by dsimp only; omega)⟩
              · skip
                have qh505 : Value.bool (decide (¬ ((xp495.n : Int) ∈ p))) = Value.bool false := by rw [decide_eq_false h505]
                replace h505 := Decidable.not_not.1 h505
                have h505i := h505
                have qh505i : Value.bool (decide ((xp495.n : Int) ∈ p)) = Value.bool true := by rw [decide_eq_true h505i]
                refine wc_skip ?_
                refine inBlock_normal ?_
                refine then_normal ?_
                refine wc_region ?_
                refine wl_ok (r_add (p := (i2 : Nat)) (q := 1) rfl rfl (by omega)) ?_
                refine wl_ok (r_move (v := (.int .i64 (((i2 : Nat) + 1)))) rfl) ?_
                refine wl_nil ?_
                refine then_loop ?_
                have t515 := ti
                rw [drop_some gp495] at t515
                simp only [meetAll, meet1, eq_true h502, eq_true h505i, if_true, if_false, ne_eq, not_true_eq_false, not_false_eq_true, eq_self] at t515
                exact ⟨(i2 + 1, p, q), _, rfl, (by repeat (first | (with_reducible exact Agr.hav _ _ _) | (with_reducible refine Agr.on ?_) | ((with_reducible refine Agr.hin ?_ ?_); rfl) | (with_reducible refine Agr.un ?_) | ((with_reducible refine Agr.os ?_ ?_); rfl) | ((with_reducible refine Agr.uc ?_ ?_); rfl))), ⟨rfl, rfl, trivial⟩, ⟨G487, (fun x hx => L488 x (List.mem_cons_of_mem _ hx)), (s489.go (Keep.refl _ _) (fun x hx _ => (List.mem_cons_of_mem _ hx))), (s490.go (Keep.refl _ _) (fun x hx _ => (List.mem_cons_of_mem _ hx))), (s491.go (Keep.refl _ _) (fun x hx _ => (List.mem_cons_of_mem _ hx))), (o492.go (Keep.refl _ _) (fun x hx _ => (List.mem_cons_of_mem _ hx))), z493, by omega, t515, hgood3, hpl⟩, (by dsimp only; omega)⟩
            · skip
              have qh502 : Value.bool (decide ((xp495.kind : Int) = 2)) = Value.bool false := by rw [decide_eq_false h502]
              refine wl_off (b' := false) rfl qh502 rfl ?_
              refine wl_off (b' := false) rfl qh502 rfl ?_
              refine wl_off (b' := false) rfl qh502 rfl ?_
              refine wl_off (b' := false) rfl qh502 rfl ?_
              refine wl_off (b' := false) rfl qh502 rfl ?_
              refine wl_ok (r_pick (b := false) (v := (.bool false)) qh502 rfl) ?_
              refine wl_nil ?_
              refine then_normal ?_
              refine wc_iff rfl ?_
              refine wc_skip ?_
              refine inBlock_normal ?_
              refine then_normal ?_
              refine wc_region ?_
              refine wl_ok (r_add (p := (i2 : Nat)) (q := 1) rfl rfl (by omega)) ?_
              refine wl_ok (r_move (v := (.int .i64 (((i2 : Nat) + 1)))) rfl) ?_
              refine wl_nil ?_
              refine then_loop ?_
              have t516 := ti
              rw [drop_some gp495] at t516
              simp only [meetAll, meet1, eq_false h502, if_true, if_false, ne_eq, not_true_eq_false, not_false_eq_true, eq_self] at t516
              exact ⟨(i2 + 1, p, q), _, rfl, (by repeat (first | (with_reducible exact Agr.hav _ _ _) | (with_reducible refine Agr.on ?_) | ((with_reducible refine Agr.hin ?_ ?_); rfl) | (with_reducible refine Agr.un ?_) | ((with_reducible refine Agr.os ?_ ?_); rfl) | ((with_reducible refine Agr.uc ?_ ?_); rfl))), ⟨rfl, rfl, trivial⟩, ⟨G487, (fun x hx => L488 x (List.mem_cons_of_mem _ hx)), (s489.go (Keep.refl _ _) (fun x hx _ => (List.mem_cons_of_mem _ hx))), (s490.go (Keep.refl _ _) (fun x hx _ => (List.mem_cons_of_mem _ hx))), (s491.go (Keep.refl _ _) (fun x hx _ => (List.mem_cons_of_mem _ hx))), (o492.go (Keep.refl _ _) (fun x hx _ => (List.mem_cons_of_mem _ hx))), z493, by omega, t516, hgood3, hpl⟩, (by dsimp only; omega)⟩
          · skip
            have qh494 : Value.bool (decide (((i2 : Nat) : Int) < (from_.length : Nat))) = Value.bool false := by rw [decide_eq_false h494]
            refine wc_exit ?_
            refine then_exit ?_
            refine then_exit ?_
            have t517 := ti
            rw [drop_done h494] at t517
            simp only [meetAll] at t517
            have hle2 : j + 1 ≤ p.length + 1 := by omega
            have hnew : metGo l from_ p (j + 1) = metL l from_ := by rw [t517, ← metGo_first hj0]; exact tj
            have hgoodn := hgood3
            refine inBlock_eq ?_
            refine inBlock_normal ?_
            refine then_normal ?_
            refine wc_region ?_
            refine wl_ok (r_move (v := (.int .i64 (((j : Nat) : Int) - 1))) rfl) ?_
            refine wl_ok (r_add (p := ((j : Nat) : Int) - 1) (q := 1) rfl rfl (by omega)) ?_
            refine wl_ok (r_assign (v := (.int .i64 ((((j : Nat) : Int) - 1 + 1)))) rfl) ?_
            refine wl_nil ?_
            refine then_loop ?_
            exact ⟨(j + 1, p, q, mv), _, rfl, (by repeat (first | (with_reducible exact Agr.hav _ _ _) | (with_reducible refine Agr.on ?_) | ((with_reducible refine Agr.hin ?_ ?_); rfl) | (with_reducible refine Agr.un ?_) | ((with_reducible refine Agr.os ?_ ?_); rfl) | ((with_reducible refine Agr.uc ?_ ?_); rfl))), ⟨(by show Value.int .i64 ((j : Int) - 1 + 1) = Value.int .i64 (((j + 1 : Nat) : Int) - 1); congr 1; omega), rfl, rfl, trivial⟩, ⟨G487, L488, s489, s490, o492, z493, by omega, hnew, hgoodn, (fun h => absurd h (Nat.succ_ne_zero _))⟩, (by dsimp only; omega)⟩
    · skip
      have qh446 : Value.bool (decide ((((j : Nat) : Int) - 1 : Int) < (o.length : Nat))) = Value.bool false := by rw [decide_eq_false h446]
      refine wc_exit ?_
      refine then_exit ?_
      refine then_exit ?_
      refine inBlock_eq ?_
      refine then_normal ?_
      refine wc_seq ?_
      refine wc_region ?_
      refine wl_ok (r_move (v := v1) rfl) ?_
      refine wl_ok (r_assign (v := v1) rfl) ?_
      refine wl_nil ?_
      refine then_normal ?_
      refine wc_ret ?_
      refine fin1 (v := v1) Try.results34 rfl ?_
      have fin : o = metL l from_ := by rw [← tj, metGo_done h446]
      exact ⟨_, rfl, by rw [← fin]; exact o444, z445, G440⟩

end Go.Proofs.Ytkjajililnbimaa
