import Derived.Test.YtkjajililnbimaaWalkF

set_option linter.unusedSimpArgs false
set_option linter.unusedVariables false
namespace Go.Proofs.Ytkjajililnbimaa
open Go Go.Proofs Go.WX
theorem fnOk35 : FnOk Try.prog 35 := ⟨_, Try.func35, by kernel_rfl, rfl⟩
theorem fnOk36 : FnOk Try.prog 36 := ⟨_, Try.func36, by kernel_rfl, rfl⟩
theorem cellMore_calls (M : List Nat) (w : World) (hL : LtM M w) (v : Value) (l : List (List Val)) (u : Value) (from_ : List Val) (u2 : Value) (more : List Val) (hv : rSliceRd (rSlice rVal) w M v l) (hu : rSliceRd rVal w M u from_) (hu2 : rSliceRd rVal w M u2 more) (hsm : more.length ≤ 1048576) (hsf : from_.length ≤ 1048576) : Calls Try.prog 8 #[v, u, u2] w
    (fun e w' => e = .returned (.bool true) ∧ Grow w w') := by
  refine calls_start (args := [v, u, u2]) Try.func8 rfl Try.ntmps8 (Nat.le_of_ble_eq_true rfl) ?_
  have hG : Grow w w := Keep.refl _ _
  have hl := hv.len_le
  have hlu := hu.len_le
  have hlu2 := hu2.len_le
  refine wc_seq ?_
  refine wc_region ?_
  refine wl_ok (r_assign (v := (.bool false)) rfl) ?_
  refine wl_nil ?_
  refine then_normal ?_
  refine wc_seq ?_
  refine wc_region ?_
  refine wl_ok (r_move (v := v) rfl) ?_
  refine wl_ok (r_move (v := u) rfl) ?_
  refine wl_call (args := [v, u]) fnOk15 rfl rfl (reach_calls M _ hL v l u from_ hv hu) ?_
  rintro _ w629 ⟨v631, rfl, ov631, fv631, k630⟩
  refine ⟨_, rfl, ?_⟩
  have z632 : ∀ x ∈ ob v631, w.heap.size ≤ x := fun x hx => Nat.le_trans hG.size (fv631 x hx)
  replace hv := hv.go (k630.weaken (fun _ h => absurd h List.not_mem_nil)) (fun _ h _ => h)
  replace hu := hu.go (k630.weaken (fun _ h => absurd h List.not_mem_nil)) (fun _ h _ => h)
  replace hu2 := hu2.go (k630.weaken (fun _ h => absurd h List.not_mem_nil)) (fun _ h _ => h)
  replace hG := hG.grow k630
  replace hL := hL.grow k630
  refine wl_ok (r_move (v := (.tuple #[v631, (.int .i64 ((reach l from_).2))])) rfl) ?_
  refine wl_ok (r_extract (vs := [v631, (.int .i64 ((reach l from_).2))]) (v := v631) rfl rfl) ?_
  refine wl_ok (r_extract (vs := [v631, (.int .i64 ((reach l from_).2))]) (v := (.int .i64 ((reach l from_).2))) rfl rfl) ?_
  refine wl_ok (r_assign (v := v631) rfl) ?_
  refine wl_ok (r_assign (v := (.int .i64 ((reach l from_).2))) rfl) ?_
  refine wl_nil ?_
  refine then_normal ?_
  refine wc_seq ?_
  refine wc_seq ?_
  refine wc_region ?_
  refine wl_call (args := []) fnOk16 rfl rfl (met_calls [] _ (fun x hx => absurd hx List.not_mem_nil) ) ?_
  rintro _ w633 ⟨rfl, k634⟩
  refine ⟨_, rfl, ?_⟩
  replace hv := hv.go (k634.weaken (fun _ h => absurd h List.not_mem_nil)) (fun _ h _ => h)
  replace hu := hu.go (k634.weaken (fun _ h => absurd h List.not_mem_nil)) (fun _ h _ => h)
  replace hu2 := hu2.go (k634.weaken (fun _ h => absurd h List.not_mem_nil)) (fun _ h _ => h)
  replace ov631 := ov631.go (k634.weaken (fun _ h => absurd h List.not_mem_nil)) (fun _ h _ => h)
  replace hG := hG.grow k634
  replace hL := hL.grow k634
  refine wl_ok (r_not (b := true) rfl) ?_
  refine wl_ok (r_move (v := (.bool false)) rfl) ?_
  refine wl_on rfl rfl ?_
  refine wl_ok (r_move (v := (.int .i64 ((reach l from_).2))) rfl) ?_
  refine wl_on rfl rfl ?_
  refine wl_ok (r_neq (p := (reach l from_).2) (q := 0) rfl rfl) ?_
  refine wl_ok (r_pick (b := false) (v := (.bool (decide (((reach l from_).2 : Int) ≠ 0)))) rfl rfl) ?_
  refine wl_ok (r_move (v := (.bool (decide (((reach l from_).2 : Int) ≠ 0)))) rfl) ?_
  refine (Decidable.em (((reach l from_).2 : Int) ≠ 0)).elim (fun h635 => ?_) (fun h635 => ?_)
  · skip
    have qh635 : Value.bool (decide (((reach l from_).2 : Int) ≠ 0)) = Value.bool true := by rw [decide_eq_true h635]
    refine wl_off (b' := true) rfl qh635 rfl ?_
    refine wl_off (b' := true) rfl qh635 rfl ?_
    refine wl_off (b' := true) rfl qh635 rfl ?_
    refine wl_off (b' := true) rfl qh635 rfl ?_
    refine wl_off (b' := true) rfl qh635 rfl ?_
    refine wl_off (b' := true) rfl qh635 rfl ?_
    refine wl_ok (r_pick (b := true) (v := (.bool true)) qh635 rfl) ?_
    refine wl_nil ?_
    refine then_normal ?_
    refine wc_ift rfl ?_
    refine wc_seq ?_
    refine wc_region ?_
    refine wl_call (args := []) fnOk16 rfl rfl (met_calls [] _ (fun x hx => absurd hx List.not_mem_nil) ) ?_
    rintro _ w636 ⟨rfl, k637⟩
    refine ⟨_, rfl, ?_⟩
    replace hv := hv.go (k637.weaken (fun _ h => absurd h List.not_mem_nil)) (fun _ h _ => h)
    replace hu := hu.go (k637.weaken (fun _ h => absurd h List.not_mem_nil)) (fun _ h _ => h)
    replace hu2 := hu2.go (k637.weaken (fun _ h => absurd h List.not_mem_nil)) (fun _ h _ => h)
    replace ov631 := ov631.go (k637.weaken (fun _ h => absurd h List.not_mem_nil)) (fun _ h _ => h)
    replace hG := hG.grow k637
    replace hL := hL.grow k637
    refine wl_ok (r_assign (v := (.bool true)) rfl) ?_
    refine wl_nil ?_
    refine then_normal ?_
    refine wc_ret ?_
    refine then_ret ?_
    refine fin1 (v := (.bool true)) Try.results8 rfl ?_
    exact ⟨congrArg Ending.returned rfl, hG⟩
  · skip
    have qh635 : Value.bool (decide (((reach l from_).2 : Int) ≠ 0)) = Value.bool false := by rw [decide_eq_false h635]
    replace h635 := Decidable.not_not.1 h635
    refine wl_on rfl qh635 ?_
    refine wl_ok (r_move (v := u) rfl) ?_
    refine wl_on rfl qh635 ?_
    refine wl_ok (r_len_rd (v := u) SliceOf28 rfl hu) ?_
    refine wl_on rfl qh635 ?_
    refine wl_ok (r_move (v := u2) rfl) ?_
    refine wl_on rfl qh635 ?_
    refine wl_ok (r_len_rd (v := u2) SliceOf28 rfl hu2) ?_
    refine wl_on rfl qh635 ?_
    refine wl_ok (r_add (p := (from_.length : Nat)) (q := (more.length : Nat)) rfl rfl (by omega)) ?_
    refine wl_on rfl qh635 ?_
    refine wl_ok (r_gtr (p := ((from_.length : Nat) + (more.length : Nat))) (q := 100) rfl rfl) ?_
    refine wl_ok (r_pick (b := false) (v := (.bool (decide ((100 : Int) < ((from_.length : Nat) + (more.length : Nat)))))) qh635 rfl) ?_
    refine wl_nil ?_
    refine then_normal ?_
    refine wc_ifd (p := (100 : Int) < ((from_.length : Nat) + (more.length : Nat))) rfl (fun h638 => ?_) (fun h638 => ?_)
    · skip
      have qh638 : Value.bool (decide ((100 : Int) < ((from_.length : Nat) + (more.length : Nat)))) = Value.bool true := by rw [decide_eq_true h638]
      refine wc_seq ?_
      refine wc_region ?_
      refine wl_call (args := []) fnOk16 rfl rfl (met_calls [] _ (fun x hx => absurd hx List.not_mem_nil) ) ?_
      rintro _ w639 ⟨rfl, k640⟩
      refine ⟨_, rfl, ?_⟩
      replace hv := hv.go (k640.weaken (fun _ h => absurd h List.not_mem_nil)) (fun _ h _ => h)
      replace hu := hu.go (k640.weaken (fun _ h => absurd h List.not_mem_nil)) (fun _ h _ => h)
      replace hu2 := hu2.go (k640.weaken (fun _ h => absurd h List.not_mem_nil)) (fun _ h _ => h)
      replace ov631 := ov631.go (k640.weaken (fun _ h => absurd h List.not_mem_nil)) (fun _ h _ => h)
      replace hG := hG.grow k640
      replace hL := hL.grow k640
      refine wl_ok (r_assign (v := (.bool true)) rfl) ?_
      refine wl_nil ?_
      refine then_normal ?_
      refine wc_ret ?_
      refine then_ret ?_
      refine fin1 (v := (.bool true)) Try.results8 rfl ?_
      exact ⟨congrArg Ending.returned rfl, hG⟩
    · skip
      have qh638 : Value.bool (decide ((100 : Int) < ((from_.length : Nat) + (more.length : Nat)))) = Value.bool false := by rw [decide_eq_false h638]
      refine wc_skip ?_
      refine then_normal ?_
      refine wc_seq ?_
      refine wc_seq ?_
      refine wc_region ?_
      refine wl_ok (r_move (v := v) rfl) ?_
      refine wl_ok (r_len_rd (v := v) SliceOf27 rfl hv) ?_
      refine wl_ok (r_lss (p := (l.length : Nat)) (q := 24) rfl rfl) ?_
      refine wl_nil ?_
      refine then_normal ?_
      refine wc_ifd (p := ((l.length : Nat) : Int) < 24) rfl (fun h641 => ?_) (fun h641 => ?_)
      · skip
        have qh641 : Value.bool (decide (((l.length : Nat) : Int) < 24)) = Value.bool true := by rw [decide_eq_true h641]
        refine wc_seq ?_
        refine wc_region ?_
        refine wl_ok (r_move (v := v) rfl) ?_
        refine wl_call (args := [v]) fnOk35 rfl rfl (cloneRows_calls M _ hL v l hv (by omega)) ?_
        rintro _ w642 ⟨v644, rfl, ov644, fv644, k643⟩
        refine ⟨_, rfl, ?_⟩
        have z645 : ∀ x ∈ ob v644, w.heap.size ≤ x := fun x hx => Nat.le_trans hG.size (fv644 x hx)
        replace hv := hv.go (k643.weaken (fun _ h => absurd h List.not_mem_nil)) (mem_newO fv644)
        replace hu := hu.go (k643.weaken (fun _ h => absurd h List.not_mem_nil)) (mem_newO fv644)
        replace hu2 := hu2.go (k643.weaken (fun _ h => absurd h List.not_mem_nil)) (mem_newO fv644)
        replace ov631 := ov631.go (k643.weaken (fun _ h => absurd h List.not_mem_nil)) (mem_newO fv644)
        replace hG := hG.grow k643
        replace hL := hL.grow k643
        replace hL := hL.own ov644
        refine wl_ok (r_build (out := [(.int .i64 (0)), (.int .i64 (0))]) Struct34 rfl rfl) ?_
        refine wl_buildSlice (R := rVal) (M := (ob v644 ++ M)) (vs := [(.agg #[(.int .i64 (0)), (.int .i64 (0))])]) (xs := [(⟨0, 0⟩ : Val)]) ElemOf28 rfl rfl rfl ⟨⟨rfl, (by first | omega | (dsimp only; omega)), (by first | omega | (dsimp only; omega))⟩, trivial⟩ hL (by decide) ?_
        intro w646 v647 k648 ov647 uv647
        have z649 : ∀ x ∈ ob v647, w.heap.size ≤ x := fresh_new hG.size rfl uv647
        replace hv := hv.go (k648.weaken (fun _ h => absurd h List.not_mem_nil)) (fun _ h _ => h)
        replace hu := hu.go (k648.weaken (fun _ h => absurd h List.not_mem_nil)) (fun _ h _ => h)
        replace hu2 := hu2.go (k648.weaken (fun _ h => absurd h List.not_mem_nil)) (fun _ h _ => h)
        replace ov631 := ov631.go (k648.weaken (fun _ h => absurd h List.not_mem_nil)) (fun _ h _ => h)
        replace ov644 := ov644.go (k648.weaken (fun _ h => absurd h List.not_mem_nil)) (fun _ h _ => h)
        replace hG := hG.grow k648
        replace hL := hL.grow k648
        refine wl_buildSlice (R := (rSlice rVal)) (M := (ob v644 ++ M)) (vs := [v647]) (xs := [([(⟨0, 0⟩ : Val)] : List (Val))]) ElemOf27 rfl rfl rfl ⟨ov647.rd.rdc, trivial⟩ hL (by decide) ?_
        intro w650 v651 k652 ov651 uv651
        have z653 : ∀ x ∈ ob v651, w.heap.size ≤ x := fresh_new hG.size rfl uv651
        replace hv := hv.go (k652.weaken (fun _ h => absurd h List.not_mem_nil)) (fun _ h _ => h)
        replace hu := hu.go (k652.weaken (fun _ h => absurd h List.not_mem_nil)) (fun _ h _ => h)
        replace hu2 := hu2.go (k652.weaken (fun _ h => absurd h List.not_mem_nil)) (fun _ h _ => h)
        replace ov631 := ov631.go (k652.weaken (fun _ h => absurd h List.not_mem_nil)) (fun _ h _ => h)
        replace ov644 := ov644.go (k652.weaken (fun _ h => absurd h List.not_mem_nil)) (fun _ h _ => h)
        replace ov647 := ov647.go (k652.weaken (fun _ h => absurd h List.not_mem_nil)) (fun _ h _ => h)
        replace hG := hG.grow k652
        replace hL := hL.grow k652
        refine wl_append (R := (rSlice rVal)) (v := v644) (u := v651) (l := l) (m := ([([(⟨0, 0⟩ : Val)] : List (Val))] : List (List Val))) (M := M) ElemOf27 rfl rfl ov644 rfl ov651.rd (fun x hx => hL x (List.mem_append_right _ hx)) (by first | omega | (simp; omega)) (by first | omega | (simp; omega)) ?_
        intro v654 w655 ov654 k656 uv654
        have z657 : ∀ x ∈ ob v654, w.heap.size ≤ x := fresh_app z645 hG.size uv654
        replace hv := hv.go (k656.weaken (fun x hx _ => by simp [hx])) (mem_mid [] uv654)
        replace hu := hu.go (k656.weaken (fun x hx _ => by simp [hx])) (mem_mid [] uv654)
        replace hu2 := hu2.go (k656.weaken (fun x hx _ => by simp [hx])) (mem_mid [] uv654)
        replace ov631 := ov631.go (k656.weaken (fun x hx _ => by simp [hx])) (mem_mid [] uv654)
        replace ov647 := ov647.go (k656.weaken (fun x hx _ => by simp [hx])) (mem_mid [] uv654)
        replace ov651 := ov651.go (k656.weaken (fun x hx _ => by simp [hx])) (mem_mid [] uv654)
        replace hG := hG.stepF k656 z645
        replace hL := hL.grow k656
        replace hL := hL.swap [] ov654.lt
        refine wl_ok (r_move (v := u) rfl) ?_
        replace hv := hv.go (M' := M) (Keep.refl _ _) (fun x hx _ => (show x ∈ ob v654 ++ M from List.mem_append_right _ hx))
        replace hu := hu.go (M' := M) (Keep.refl _ _) (fun x hx _ => (show x ∈ ob v654 ++ M from List.mem_append_right _ hx))
        replace hu2 := hu2.go (M' := M) (Keep.refl _ _) (fun x hx _ => (show x ∈ ob v654 ++ M from List.mem_append_right _ hx))
        replace ov631 := ov631.go (M' := M) (Keep.refl _ _) (fun x hx _ => (show x ∈ ob v654 ++ M from List.mem_append_right _ hx))
        replace ov647 := ov647.go (M' := M) (Keep.refl _ _) (fun x hx _ => (show x ∈ ob v654 ++ M from List.mem_append_right _ hx))
        replace ov651 := ov651.go (M' := M) (Keep.refl _ _) (fun x hx _ => (show x ∈ ob v654 ++ M from List.mem_append_right _ hx))
        replace hL : LtM M w655 := fun x hx => hL x ((show x ∈ ob v654 ++ M from List.mem_append_right _ hx))
        have s658 := ov654.rd
        refine wl_call (args := [v654, u]) fnOk15 rfl rfl (reach_calls M _ hL v654 (l ++ ([([(⟨0, 0⟩ : Val)] : List (Val))] : List (List Val))) u from_ s658 hu) ?_
        rintro _ w659 ⟨v661, rfl, ov661, fv661, k660⟩
        refine ⟨_, rfl, ?_⟩
        have z662 : ∀ x ∈ ob v661, w.heap.size ≤ x := fun x hx => Nat.le_trans hG.size (fv661 x hx)
        replace hv := hv.go (k660.weaken (fun _ h => absurd h List.not_mem_nil)) (fun _ h _ => h)
        replace hu := hu.go (k660.weaken (fun _ h => absurd h List.not_mem_nil)) (fun _ h _ => h)
        replace hu2 := hu2.go (k660.weaken (fun _ h => absurd h List.not_mem_nil)) (fun _ h _ => h)
        replace s658 := s658.go (k660.weaken (fun _ h => absurd h List.not_mem_nil)) (fun _ h _ => h)
        replace ov631 := ov631.go (k660.weaken (fun _ h => absurd h List.not_mem_nil)) (fun _ h _ => h)
        replace ov647 := ov647.go (k660.weaken (fun _ h => absurd h List.not_mem_nil)) (fun _ h _ => h)
        replace ov651 := ov651.go (k660.weaken (fun _ h => absurd h List.not_mem_nil)) (fun _ h _ => h)
        replace hG := hG.grow k660
        replace hL := hL.grow k660
        refine wl_ok (r_move (v := (.tuple #[v661, (.int .i64 ((reach (l ++ ([([(⟨0, 0⟩ : Val)] : List (Val))] : List (List Val))) from_).2))])) rfl) ?_
        refine wl_ok (r_extract (vs := [v661, (.int .i64 ((reach (l ++ ([([(⟨0, 0⟩ : Val)] : List (Val))] : List (List Val))) from_).2))]) (v := v661) rfl rfl) ?_
        refine wl_ok (r_extract (vs := [v661, (.int .i64 ((reach (l ++ ([([(⟨0, 0⟩ : Val)] : List (Val))] : List (List Val))) from_).2))]) (v := (.int .i64 ((reach (l ++ ([([(⟨0, 0⟩ : Val)] : List (Val))] : List (List Val))) from_).2))) rfl rfl) ?_
        refine wl_ok (r_assign (v := v661) rfl) ?_
        refine wl_ok (r_assign (v := (.int .i64 ((reach (l ++ ([([(⟨0, 0⟩ : Val)] : List (Val))] : List (List Val))) from_).2))) rfl) ?_
        refine wl_nil ?_
        refine then_normal ?_
        refine wc_seq ?_
        refine wc_region ?_
        refine wl_ok (r_move (v := (.int .i64 ((reach (l ++ ([([(⟨0, 0⟩ : Val)] : List (Val))] : List (List Val))) from_).2))) rfl) ?_
        refine wl_ok (r_neq (p := (reach (l ++ ([([(⟨0, 0⟩ : Val)] : List (Val))] : List (List Val))) from_).2) (q := 0) rfl rfl) ?_
        refine wl_ok (r_move (v := (.bool (decide (((reach (l ++ ([([(⟨0, 0⟩ : Val)] : List (Val))] : List (List Val))) from_).2 : Int) ≠ 0)))) rfl) ?_
        have a663 : ¬ (((reach (l ++ ([([(⟨0, 0⟩ : Val)] : List (Val))] : List (List Val))) from_).2 : Int) ≠ 0) := (fun hh => hh (congrArg Prod.snd (reach_more h635 (by omega))))
        have qa663 : Value.bool (decide (((reach (l ++ ([([(⟨0, 0⟩ : Val)] : List (Val))] : List (List Val))) from_).2 : Int) ≠ 0)) = Value.bool false := by rw [decide_eq_false a663]
        refine wl_on rfl qa663 ?_
        refine wl_ok (r_move (v := v631) rfl) ?_
        refine wl_on rfl qa663 ?_
        refine wl_ok (r_move (v := v661) rfl) ?_
        refine wl_on rfl qa663 ?_
        refine wl_call (args := [v631, v661]) fnOk14 rfl rfl (eqI_calls [] _ (fun x hx => absurd hx List.not_mem_nil) v631 v661 (reach l from_).1 (reach (l ++ ([([(⟨0, 0⟩ : Val)] : List (Val))] : List (List Val))) from_).1 ov631.rd.bare ov661.rd.bare) ?_
        rintro _ w664 ⟨rfl, k665⟩
        refine ⟨_, rfl, ?_⟩
        replace hv := hv.go (k665.weaken (fun _ h => absurd h List.not_mem_nil)) (fun _ h _ => h)
        replace hu := hu.go (k665.weaken (fun _ h => absurd h List.not_mem_nil)) (fun _ h _ => h)
        replace hu2 := hu2.go (k665.weaken (fun _ h => absurd h List.not_mem_nil)) (fun _ h _ => h)
        replace s658 := s658.go (k665.weaken (fun _ h => absurd h List.not_mem_nil)) (fun _ h _ => h)
        replace ov631 := ov631.go (k665.weaken (fun _ h => absurd h List.not_mem_nil)) (fun _ h _ => h)
        replace ov647 := ov647.go (k665.weaken (fun _ h => absurd h List.not_mem_nil)) (fun _ h _ => h)
        replace ov651 := ov651.go (k665.weaken (fun _ h => absurd h List.not_mem_nil)) (fun _ h _ => h)
        replace ov661 := ov661.go (k665.weaken (fun _ h => absurd h List.not_mem_nil)) (fun _ h _ => h)
        replace hG := hG.grow k665
        replace hL := hL.grow k665
        refine wl_on rfl qa663 ?_
        have a666 : ((reach l from_).1 : List Int) = (reach (l ++ ([([(⟨0, 0⟩ : Val)] : List (Val))] : List (List Val))) from_).1 := (congrArg Prod.fst (reach_more h635 (by omega))).symm
        have qa666 : Value.bool (decide (((reach l from_).1 : List Int) = (reach (l ++ ([([(⟨0, 0⟩ : Val)] : List (Val))] : List (List Val))) from_).1)) = Value.bool true := by rw [decide_eq_true a666]
        refine wl_ok (r_not (b := true) qa666) ?_
        refine wl_ok (r_pick (b := false) (v := (.bool false)) qa663 rfl) ?_
        refine wl_nil ?_
        refine then_normal ?_
        refine wc_iff rfl ?_
        refine wc_skip ?_
        refine then_normal ?_
        refine wc_seq ?_
        refine wc_region ?_
        refine wl_ok (r_move (v := v) rfl) ?_
        refine wl_ok (r_move (v := u) rfl) ?_
        refine wl_ok (r_move (v := u2) rfl) ?_
        refine wl_buildSlice (R := (rSlice rVal)) (M := M) (vs := [u, u2]) (xs := [from_, more]) ElemOf27 rfl rfl rfl ⟨hu.rdc, hu2.rdc, trivial⟩ hL (by decide) ?_
        intro w667 v668 k669 ov668 uv668
        have z670 : ∀ x ∈ ob v668, w.heap.size ≤ x := fresh_new hG.size rfl uv668
        replace hv := hv.go (k669.weaken (fun _ h => absurd h List.not_mem_nil)) (fun _ h _ => h)
        replace hu := hu.go (k669.weaken (fun _ h => absurd h List.not_mem_nil)) (fun _ h _ => h)
        replace hu2 := hu2.go (k669.weaken (fun _ h => absurd h List.not_mem_nil)) (fun _ h _ => h)
        replace s658 := s658.go (k669.weaken (fun _ h => absurd h List.not_mem_nil)) (fun _ h _ => h)
        replace ov631 := ov631.go (k669.weaken (fun _ h => absurd h List.not_mem_nil)) (fun _ h _ => h)
        replace ov647 := ov647.go (k669.weaken (fun _ h => absurd h List.not_mem_nil)) (fun _ h _ => h)
        replace ov651 := ov651.go (k669.weaken (fun _ h => absurd h List.not_mem_nil)) (fun _ h _ => h)
        replace ov661 := ov661.go (k669.weaken (fun _ h => absurd h List.not_mem_nil)) (fun _ h _ => h)
        replace hG := hG.grow k669
        replace hL := hL.grow k669
        have hcat : (([from_, more] : List (List Val))).flatten.length ≤ 1000000 := by simp; omega
        refine wl_call (args := [v668]) fnOk36 rfl rfl (concat_calls M _ hL v668 ([from_, more] : List (List Val)) ov668.rd hcat) ?_
        rintro _ w671 ⟨v673, rfl, ov673, fv673, k672⟩
        refine ⟨_, rfl, ?_⟩
        have z674 : ∀ x ∈ ob v673, w.heap.size ≤ x := fun x hx => Nat.le_trans hG.size (fv673 x hx)
        replace hv := hv.go (k672.weaken (fun _ h => absurd h List.not_mem_nil)) (fun _ h _ => h)
        replace hu := hu.go (k672.weaken (fun _ h => absurd h List.not_mem_nil)) (fun _ h _ => h)
        replace hu2 := hu2.go (k672.weaken (fun _ h => absurd h List.not_mem_nil)) (fun _ h _ => h)
        replace s658 := s658.go (k672.weaken (fun _ h => absurd h List.not_mem_nil)) (fun _ h _ => h)
        replace ov631 := ov631.go (k672.weaken (fun _ h => absurd h List.not_mem_nil)) (fun _ h _ => h)
        replace ov647 := ov647.go (k672.weaken (fun _ h => absurd h List.not_mem_nil)) (fun _ h _ => h)
        replace ov651 := ov651.go (k672.weaken (fun _ h => absurd h List.not_mem_nil)) (fun _ h _ => h)
        replace ov661 := ov661.go (k672.weaken (fun _ h => absurd h List.not_mem_nil)) (fun _ h _ => h)
        replace ov668 := ov668.go (k672.weaken (fun _ h => absurd h List.not_mem_nil)) (fun _ h _ => h)
        replace hG := hG.grow k672
        replace hL := hL.grow k672
        refine wl_call (args := [v, v673]) fnOk15 rfl rfl (reach_calls M _ hL v l v673 ((([from_, more] : List (List Val))).flatten) hv ov673.rd) ?_
        rintro _ w675 ⟨v677, rfl, ov677, fv677, k676⟩
        refine ⟨_, rfl, ?_⟩
        have z678 : ∀ x ∈ ob v677, w.heap.size ≤ x := fun x hx => Nat.le_trans hG.size (fv677 x hx)
        replace hv := hv.go (k676.weaken (fun _ h => absurd h List.not_mem_nil)) (fun _ h _ => h)
        replace hu := hu.go (k676.weaken (fun _ h => absurd h List.not_mem_nil)) (fun _ h _ => h)
        replace hu2 := hu2.go (k676.weaken (fun _ h => absurd h List.not_mem_nil)) (fun _ h _ => h)
        replace s658 := s658.go (k676.weaken (fun _ h => absurd h List.not_mem_nil)) (fun _ h _ => h)
        replace ov631 := ov631.go (k676.weaken (fun _ h => absurd h List.not_mem_nil)) (fun _ h _ => h)
        replace ov647 := ov647.go (k676.weaken (fun _ h => absurd h List.not_mem_nil)) (fun _ h _ => h)
        replace ov651 := ov651.go (k676.weaken (fun _ h => absurd h List.not_mem_nil)) (fun _ h _ => h)
        replace ov661 := ov661.go (k676.weaken (fun _ h => absurd h List.not_mem_nil)) (fun _ h _ => h)
        replace ov668 := ov668.go (k676.weaken (fun _ h => absurd h List.not_mem_nil)) (fun _ h _ => h)
        replace ov673 := ov673.go (k676.weaken (fun _ h => absurd h List.not_mem_nil)) (fun _ h _ => h)
        replace hG := hG.grow k676
        replace hL := hL.grow k676
        refine wl_ok (r_move (v := (.tuple #[v677, (.int .i64 ((reach l ((([from_, more] : List (List Val))).flatten)).2))])) rfl) ?_
        refine wl_ok (r_extract (vs := [v677, (.int .i64 ((reach l ((([from_, more] : List (List Val))).flatten)).2))]) (v := v677) rfl rfl) ?_
        refine wl_ok (r_extract (vs := [v677, (.int .i64 ((reach l ((([from_, more] : List (List Val))).flatten)).2))]) (v := (.int .i64 ((reach l ((([from_, more] : List (List Val))).flatten)).2))) rfl rfl) ?_
        refine wl_ok (r_assign (v := v677) rfl) ?_
        refine wl_ok (r_assign (v := (.int .i64 ((reach l ((([from_, more] : List (List Val))).flatten)).2))) rfl) ?_
        refine wl_nil ?_
        refine then_normal ?_
        refine wc_seq ?_
        refine wc_seq ?_
        refine wc_region ?_
        refine wl_ok (r_move (v := (.int .i64 ((reach l ((([from_, more] : List (List Val))).flatten)).2))) rfl) ?_
        refine wl_ok (r_neq (p := (reach l ((([from_, more] : List (List Val))).flatten)).2) (q := 0) rfl rfl) ?_
        refine wl_nil ?_
        refine then_normal ?_
        refine wc_ifd (p := ((reach l ((([from_, more] : List (List Val))).flatten)).2 : Int) ≠ 0) rfl (fun h679 => ?_) (fun h679 => ?_)
        · skip
          have qh679 : Value.bool (decide (((reach l ((([from_, more] : List (List Val))).flatten)).2 : Int) ≠ 0)) = Value.bool true := by rw [decide_eq_true h679]
          refine wc_seq ?_
          refine wc_region ?_
          refine wl_ok (r_assign (v := (.bool true)) rfl) ?_
          refine wl_nil ?_
          refine then_normal ?_
          refine wc_ret ?_
          refine then_ret ?_
          refine fin1 (v := (.bool true)) Try.results8 rfl ?_
          exact ⟨congrArg Ending.returned rfl, hG⟩
        · skip
          have qh679 : Value.bool (decide (((reach l ((([from_, more] : List (List Val))).flatten)).2 : Int) ≠ 0)) = Value.bool false := by rw [decide_eq_false h679]
          replace h679 := Decidable.not_not.1 h679
          have h1 := h635
          have h2 := h679
          refine wc_skip ?_
          refine then_normal ?_
          refine wc_seq ?_
          refine wc_seq ?_
          refine wc_region ?_
          refine wl_ok (r_move (v := v631) rfl) ?_
          refine wl_ok (r_len_rd (v := v631) SliceOf24 rfl ov631.rd) ?_
          refine wl_ok (r_move (v := (.int .i64 (0))) rfl) ?_
          refine wl_nil ?_
          refine then_normal ?_
          refine wc_block ?_
          have hgl := (reach_closed h1).good.le
          have hl24 := checkAll_len (reach_ok h1).1
          have s680 := ov631.rd
          have s681 := ov647.rd
          have s682 := ov651.rd
          have s683 := ov661.rd
          have s684 := ov668.rd
          have s685 := ov673.rd
          have s686 := ov677.rd
          refine wc_loop (inl [6, 13, 70, 71, 72, 73, 74, 75, 76, 77, 78]) (σ := Nat) (fun k => [(70, (.int .i64 ((k : Nat))))]) (fun k wr => Grow w wr ∧ LtM M wr ∧ rSliceRd (rSlice rVal) wr M v l ∧ rSliceRd rVal wr M u from_ ∧ rSliceRd rVal wr M u2 more ∧ rSliceRd (rSlice rVal) wr M v654 (l ++ ([([(⟨0, 0⟩ : Val)] : List (Val))] : List (List Val))) ∧ rSliceRd rInt wr M v631 (reach l from_).1 ∧ rSliceRd rVal wr M v647 ([(⟨0, 0⟩ : Val)] : List (Val)) ∧ rSliceRd (rSlice rVal) wr M v651 ([([(⟨0, 0⟩ : Val)] : List (Val))] : List (List Val)) ∧ rSliceRd rInt wr M v661 (reach (l ++ ([([(⟨0, 0⟩ : Val)] : List (Val))] : List (List Val))) from_).1 ∧ rSliceRd (rSlice rVal) wr M v668 ([from_, more] : List (List Val)) ∧ rSliceRd rVal wr M v673 (([from_, more] : List (List Val))).flatten ∧ rSliceRd rInt wr M v677 (reach l ((([from_, more] : List (List Val))).flatten)).1 ∧ k ≤ (reach l from_).1.length) (fun k => (reach l from_).1.length - k) (0) ⟨rfl, trivial⟩ ?_ ?_
          · exact ⟨hG, hL, hv, hu, hu2, s658, s680, s681, s682, s683, s684, s685, s686, Nat.zero_le _⟩
          · rintro k w687 j688 ⟨G689, L690, s691, s692, s693, s694, s695, s696, s697, s698, s699, s700, s701, lk⟩
            refine wc_seq ?_
            refine wc_region ?_
            refine wl_ok (r_lss (p := (k : Nat)) (q := ((reach l from_).1.length : Nat)) rfl rfl) ?_
            refine wl_nil ?_
            refine then_normal ?_
            refine wc_seq ?_
            refine wc_ifd (p := ((k : Nat) : Int) < ((reach l from_).1.length : Nat)) rfl (fun h702 => ?_) (fun h702 => ?_)
            · skip
              have qh702 : Value.bool (decide (((k : Nat) : Int) < ((reach l from_).1.length : Nat))) = Value.bool true := by rw [decide_eq_true h702]
              refine wc_skip ?_
              refine then_normal ?_
              refine wc_seq ?_
              refine wc_block ?_
              refine wc_seq ?_
              refine wc_region ?_
              refine wl_indexN (k := k) (v := v631) SliceOf24 rfl rfl s695 rfl (by omega) ?_
              intro p703 cs704 xp703 gp703 hp703 rp703
              obtain ⟨rfl, ip703⟩ := rp703
              refine wl_ok (r_loadP1 (p := p703) (v := (.int .i64 (xp703))) One3 rfl hp703) ?_
              refine wl_ok (r_assign (v := (.int .i64 (xp703))) rfl) ?_
              refine wl_nil ?_
              refine then_normal ?_
              refine wc_seq ?_
              refine wc_region ?_
              refine wl_ok (r_move (v := v677) rfl) ?_
              refine wl_ok (r_move (v := (.int .i64 (xp703))) rfl) ?_
              refine wl_call (args := [v677, (.int .i64 (xp703))]) fnOk37 rfl rfl (has_calls [] _ (fun x hx => absurd hx List.not_mem_nil) v677 (reach l ((([from_, more] : List (List Val))).flatten)).1 (xp703) s701.bare) ?_
              rintro _ w705 ⟨rfl, k706⟩
              refine ⟨_, rfl, ?_⟩
              replace s691 := s691.go (k706.weaken (fun _ h => absurd h List.not_mem_nil)) (fun _ h _ => h)
              replace s692 := s692.go (k706.weaken (fun _ h => absurd h List.not_mem_nil)) (fun _ h _ => h)
              replace s693 := s693.go (k706.weaken (fun _ h => absurd h List.not_mem_nil)) (fun _ h _ => h)
              replace s694 := s694.go (k706.weaken (fun _ h => absurd h List.not_mem_nil)) (fun _ h _ => h)
              replace s695 := s695.go (k706.weaken (fun _ h => absurd h List.not_mem_nil)) (fun _ h _ => h)
              replace s696 := s696.go (k706.weaken (fun _ h => absurd h List.not_mem_nil)) (fun _ h _ => h)
              replace s697 := s697.go (k706.weaken (fun _ h => absurd h List.not_mem_nil)) (fun _ h _ => h)
              replace s698 := s698.go (k706.weaken (fun _ h => absurd h List.not_mem_nil)) (fun _ h _ => h)
              replace s699 := s699.go (k706.weaken (fun _ h => absurd h List.not_mem_nil)) (fun _ h _ => h)
              replace s700 := s700.go (k706.weaken (fun _ h => absurd h List.not_mem_nil)) (fun _ h _ => h)
              replace s701 := s701.go (k706.weaken (fun _ h => absurd h List.not_mem_nil)) (fun _ h _ => h)
              replace G689 := G689.grow k706
              replace L690 := L690.grow k706
              have a707 : (xp703 : Int) ∈ (reach l ((([from_, more] : List (List Val))).flatten)).1 := (reach_sub h1 h2 _ (List.mem_of_getElem? gp703))
              have qa707 : Value.bool (decide ((xp703 : Int) ∈ (reach l ((([from_, more] : List (List Val))).flatten)).1)) = Value.bool true := by rw [decide_eq_true a707]
              refine wl_ok (r_not (b := true) qa707) ?_
              refine wl_nil ?_
              refine then_normal ?_
              refine wc_iff rfl ?_
              refine wc_skip ?_
              refine inBlock_normal ?_
              refine then_normal ?_
              refine wc_region ?_
              refine wl_ok (r_add (p := (k : Nat)) (q := 1) rfl rfl (by omega)) ?_
              refine wl_ok (r_move (v := (.int .i64 (((k : Nat) + 1)))) rfl) ?_
              refine wl_nil ?_
              refine then_loop ?_
              exact ⟨k + 1, _, rfl, (by repeat (first | (with_reducible exact Agr.hav _ _ _) | (with_reducible refine Agr.on ?_) | ((with_reducible refine Agr.hin ?_ ?_); rfl) | (with_reducible refine Agr.un ?_) | ((with_reducible refine Agr.os ?_ ?_); rfl) | ((with_reducible refine Agr.uc ?_ ?_); rfl))), ⟨rfl, trivial⟩, ⟨G689, L690, s691, s692, s693, s694, s695, s696, s697, s698, s699, s700, s701, by omega⟩, (by omega)⟩
            · skip
              have qh702 : Value.bool (decide (((k : Nat) : Int) < ((reach l from_).1.length : Nat))) = Value.bool false := by rw [decide_eq_false h702]
              refine wc_exit ?_
              refine then_exit ?_
              refine then_exit ?_
              refine inBlock_eq ?_
              refine then_normal ?_
              refine wc_seq ?_
              refine wc_quiet mixed (by kernel_rfl) ?_
              refine wq_ok (fun wq hq => (r_move (v := v631) rfl)) ?_
              refine wq_ok (fun wq hq => (r_len_rd (v := v631) SliceOf24 rfl s695)) ?_
              refine wq_ok (fun wq hq => (r_eql (p := ((reach l from_).1.length : Nat)) (q := 0) rfl rfl)) ?_
              refine wq_ok (fun wq hq => (r_move (v := (.bool (decide ((((reach l from_).1.length : Nat) : Int) = 0)))) rfl)) ?_
              refine (Decidable.em ((((reach l from_).1.length : Nat) : Int) = 0)).elim (fun h708 => ?_) (fun h708 => ?_)
              · skip
                have qh708 : Value.bool (decide ((((reach l from_).1.length : Nat) : Int) = 0)) = Value.bool true := by rw [decide_eq_true h708]
                refine wq_off (b' := true) rfl qh708 rfl ?_
                refine wq_off (b' := true) rfl qh708 rfl ?_
                refine wq_off (b' := true) rfl qh708 rfl ?_
                refine wq_off (b' := true) rfl qh708 rfl ?_
                refine wq_offU rfl rfl ?_
                refine wq_offU rfl rfl ?_
                refine wq_offU rfl rfl ?_
                refine wq_offU rfl rfl ?_
                refine wq_offU rfl rfl ?_
                refine wq_offU rfl rfl ?_
                refine wq_offU rfl rfl ?_
                refine wq_off (b' := true) rfl qh708 rfl ?_
                refine wq_ok (fun wq hq => (r_pick (b := true) (v := (.bool true)) qh708 rfl)) ?_
                refine wq_ok (fun wq hq => (r_assign (v := (.bool true)) rfl)) ?_
                refine wq_nil ?_
                intro w709 k710
                replace s691 := s691.go (k710.weaken (fun _ h => absurd h List.not_mem_nil)) (fun _ h _ => h)
                replace s692 := s692.go (k710.weaken (fun _ h => absurd h List.not_mem_nil)) (fun _ h _ => h)
                replace s693 := s693.go (k710.weaken (fun _ h => absurd h List.not_mem_nil)) (fun _ h _ => h)
                replace s694 := s694.go (k710.weaken (fun _ h => absurd h List.not_mem_nil)) (fun _ h _ => h)
                replace s695 := s695.go (k710.weaken (fun _ h => absurd h List.not_mem_nil)) (fun _ h _ => h)
                replace s696 := s696.go (k710.weaken (fun _ h => absurd h List.not_mem_nil)) (fun _ h _ => h)
                replace s697 := s697.go (k710.weaken (fun _ h => absurd h List.not_mem_nil)) (fun _ h _ => h)
                replace s698 := s698.go (k710.weaken (fun _ h => absurd h List.not_mem_nil)) (fun _ h _ => h)
                replace s699 := s699.go (k710.weaken (fun _ h => absurd h List.not_mem_nil)) (fun _ h _ => h)
                replace s700 := s700.go (k710.weaken (fun _ h => absurd h List.not_mem_nil)) (fun _ h _ => h)
                replace s701 := s701.go (k710.weaken (fun _ h => absurd h List.not_mem_nil)) (fun _ h _ => h)
                replace G689 := G689.grow k710
                replace L690 := L690.grow k710
                refine then_normal ?_
                refine wc_ret ?_
                refine fin1 (v := (.bool true)) Try.results8 rfl ?_
                exact ⟨congrArg Ending.returned rfl, G689⟩
              · skip
                have qh708 : Value.bool (decide ((((reach l from_).1.length : Nat) : Int) = 0)) = Value.bool false := by rw [decide_eq_false h708]
                refine wq_on rfl qh708 ?_
                refine wq_ok (fun wq hq => (r_move (v := v677) rfl)) ?_
                refine wq_on rfl qh708 ?_
                refine wq_ok (fun wq hq => (r_len_rd (v := v677) SliceOf24 rfl s701)) ?_
                refine wq_on rfl qh708 ?_
                refine wq_ok (fun wq hq => (r_gtr (p := ((reach l ((([from_, more] : List (List Val))).flatten)).1.length : Nat)) (q := 0) rfl rfl)) ?_
                refine wq_on rfl qh708 ?_
                refine wq_ok (fun wq hq => (r_move (v := (.bool (decide ((0 : Int) < ((reach l ((([from_, more] : List (List Val))).flatten)).1.length : Nat))))) rfl)) ?_
                have a711 : (0 : Int) < ((reach l ((([from_, more] : List (List Val))).flatten)).1.length : Nat) := (reach_some h1 h2 (by omega))
                have qa711 : Value.bool (decide ((0 : Int) < ((reach l ((([from_, more] : List (List Val))).flatten)).1.length : Nat))) = Value.bool true := by rw [decide_eq_true a711]
                refine wq_on rfl qa711 ?_
                refine wq_ok (fun wq hq => (r_move (v := v677) rfl)) ?_
                refine wq_on rfl qa711 ?_
                refine wq_index (k := 0) (v := v677) SliceOf24 rfl rfl s701 rfl (by omega) (by omega) ?_
                intro p712 cs713 xp712 gp712 hp712 rp712
                obtain ⟨rfl, ip712⟩ := rp712
                refine wq_on rfl qa711 ?_
                refine wq_ok (fun wq hq => (r_loadP1 (p := p712) (v := (.int .i64 (xp712))) One3 rfl (hp712.grow hq))) ?_
                refine wq_on rfl qa711 ?_
                refine wq_ok (fun wq hq => (r_move (v := v631) rfl)) ?_
                refine wq_on rfl qa711 ?_
                refine wq_index (k := 0) (v := v631) SliceOf24 rfl rfl s695 rfl (by omega) (by omega) ?_
                intro p714 cs715 xp714 gp714 hp714 rp714
                obtain ⟨rfl, ip714⟩ := rp714
                refine wq_on rfl qa711 ?_
                refine wq_ok (fun wq hq => (r_loadP1 (p := p714) (v := (.int .i64 (xp714))) One3 rfl (hp714.grow hq))) ?_
                refine wq_on rfl qa711 ?_
                refine wq_ok (fun wq hq => (r_eql (p := xp712) (q := xp714) rfl rfl)) ?_
                refine wq_on rfl qh708 ?_
                refine wq_ok (fun wq hq => (r_pick (b := true) (v := (.bool (decide ((xp712 : Int) = xp714)))) qa711 rfl)) ?_
                refine wq_ok (fun wq hq => (r_pick (b := false) (v := (.bool (decide ((xp712 : Int) = xp714)))) qh708 rfl)) ?_
                refine wq_ok (fun wq hq => (r_assign (v := (.bool (decide ((xp712 : Int) = xp714)))) rfl)) ?_
                refine wq_nil ?_
                intro w716 k717
                replace s691 := s691.go (k717.weaken (fun _ h => absurd h List.not_mem_nil)) (fun _ h _ => h)
                replace s692 := s692.go (k717.weaken (fun _ h => absurd h List.not_mem_nil)) (fun _ h _ => h)
                replace s693 := s693.go (k717.weaken (fun _ h => absurd h List.not_mem_nil)) (fun _ h _ => h)
                replace s694 := s694.go (k717.weaken (fun _ h => absurd h List.not_mem_nil)) (fun _ h _ => h)
                replace s695 := s695.go (k717.weaken (fun _ h => absurd h List.not_mem_nil)) (fun _ h _ => h)
                replace s696 := s696.go (k717.weaken (fun _ h => absurd h List.not_mem_nil)) (fun _ h _ => h)
                replace s697 := s697.go (k717.weaken (fun _ h => absurd h List.not_mem_nil)) (fun _ h _ => h)
                replace s698 := s698.go (k717.weaken (fun _ h => absurd h List.not_mem_nil)) (fun _ h _ => h)
                replace s699 := s699.go (k717.weaken (fun _ h => absurd h List.not_mem_nil)) (fun _ h _ => h)
                replace s700 := s700.go (k717.weaken (fun _ h => absurd h List.not_mem_nil)) (fun _ h _ => h)
                replace s701 := s701.go (k717.weaken (fun _ h => absurd h List.not_mem_nil)) (fun _ h _ => h)
                replace G689 := G689.grow k717
                replace L690 := L690.grow k717
                refine then_normal ?_
                refine wc_ret ?_
                refine fin1 (v := (.bool (decide ((xp712 : Int) = xp714)))) Try.results8 rfl ?_
                have a718 : (xp712 : Int) = xp714 := (Option.some.inj (gp712.symm.trans (reach_first h1 h2 gp714)))
                have qa718 : Value.bool (decide ((xp712 : Int) = xp714)) = Value.bool true := by rw [decide_eq_true a718]
                exact ⟨congrArg Ending.returned qa718, G689⟩
      · skip
        have qh641 : Value.bool (decide (((l.length : Nat) : Int) < 24)) = Value.bool false := by rw [decide_eq_false h641]
        refine wc_skip ?_
        refine then_normal ?_
        refine wc_seq ?_
        refine wc_region ?_
        refine wl_ok (r_move (v := v) rfl) ?_
        refine wl_ok (r_move (v := u) rfl) ?_
        refine wl_ok (r_move (v := u2) rfl) ?_
        refine wl_buildSlice (R := (rSlice rVal)) (M := M) (vs := [u, u2]) (xs := [from_, more]) ElemOf27 rfl rfl rfl ⟨hu.rdc, hu2.rdc, trivial⟩ hL (by decide) ?_
        intro w719 v720 k721 ov720 uv720
        have z722 : ∀ x ∈ ob v720, w.heap.size ≤ x := fresh_new hG.size rfl uv720
        replace hv := hv.go (k721.weaken (fun _ h => absurd h List.not_mem_nil)) (fun _ h _ => h)
        replace hu := hu.go (k721.weaken (fun _ h => absurd h List.not_mem_nil)) (fun _ h _ => h)
        replace hu2 := hu2.go (k721.weaken (fun _ h => absurd h List.not_mem_nil)) (fun _ h _ => h)
        replace ov631 := ov631.go (k721.weaken (fun _ h => absurd h List.not_mem_nil)) (fun _ h _ => h)
        replace hG := hG.grow k721
        replace hL := hL.grow k721
        have hcat : (([from_, more] : List (List Val))).flatten.length ≤ 1000000 := by simp; omega
        refine wl_call (args := [v720]) fnOk36 rfl rfl (concat_calls M _ hL v720 ([from_, more] : List (List Val)) ov720.rd hcat) ?_
        rintro _ w723 ⟨v725, rfl, ov725, fv725, k724⟩
        refine ⟨_, rfl, ?_⟩
        have z726 : ∀ x ∈ ob v725, w.heap.size ≤ x := fun x hx => Nat.le_trans hG.size (fv725 x hx)
        replace hv := hv.go (k724.weaken (fun _ h => absurd h List.not_mem_nil)) (fun _ h _ => h)
        replace hu := hu.go (k724.weaken (fun _ h => absurd h List.not_mem_nil)) (fun _ h _ => h)
        replace hu2 := hu2.go (k724.weaken (fun _ h => absurd h List.not_mem_nil)) (fun _ h _ => h)
        replace ov631 := ov631.go (k724.weaken (fun _ h => absurd h List.not_mem_nil)) (fun _ h _ => h)
        replace ov720 := ov720.go (k724.weaken (fun _ h => absurd h List.not_mem_nil)) (fun _ h _ => h)
        replace hG := hG.grow k724
        replace hL := hL.grow k724
        refine wl_call (args := [v, v725]) fnOk15 rfl rfl (reach_calls M _ hL v l v725 ((([from_, more] : List (List Val))).flatten) hv ov725.rd) ?_
        rintro _ w727 ⟨v729, rfl, ov729, fv729, k728⟩
        refine ⟨_, rfl, ?_⟩
        have z730 : ∀ x ∈ ob v729, w.heap.size ≤ x := fun x hx => Nat.le_trans hG.size (fv729 x hx)
        replace hv := hv.go (k728.weaken (fun _ h => absurd h List.not_mem_nil)) (fun _ h _ => h)
        replace hu := hu.go (k728.weaken (fun _ h => absurd h List.not_mem_nil)) (fun _ h _ => h)
        replace hu2 := hu2.go (k728.weaken (fun _ h => absurd h List.not_mem_nil)) (fun _ h _ => h)
        replace ov631 := ov631.go (k728.weaken (fun _ h => absurd h List.not_mem_nil)) (fun _ h _ => h)
        replace ov720 := ov720.go (k728.weaken (fun _ h => absurd h List.not_mem_nil)) (fun _ h _ => h)
        replace ov725 := ov725.go (k728.weaken (fun _ h => absurd h List.not_mem_nil)) (fun _ h _ => h)
        replace hG := hG.grow k728
        replace hL := hL.grow k728
        refine wl_ok (r_move (v := (.tuple #[v729, (.int .i64 ((reach l ((([from_, more] : List (List Val))).flatten)).2))])) rfl) ?_
        refine wl_ok (r_extract (vs := [v729, (.int .i64 ((reach l ((([from_, more] : List (List Val))).flatten)).2))]) (v := v729) rfl rfl) ?_
        refine wl_ok (r_extract (vs := [v729, (.int .i64 ((reach l ((([from_, more] : List (List Val))).flatten)).2))]) (v := (.int .i64 ((reach l ((([from_, more] : List (List Val))).flatten)).2))) rfl rfl) ?_
        refine wl_ok (r_assign (v := v729) rfl) ?_
        refine wl_ok (r_assign (v := (.int .i64 ((reach l ((([from_, more] : List (List Val))).flatten)).2))) rfl) ?_
        refine wl_nil ?_
        refine then_normal ?_
        refine wc_seq ?_
        refine wc_seq ?_
        refine wc_region ?_
        refine wl_ok (r_move (v := (.int .i64 ((reach l ((([from_, more] : List (List Val))).flatten)).2))) rfl) ?_
        refine wl_ok (r_neq (p := (reach l ((([from_, more] : List (List Val))).flatten)).2) (q := 0) rfl rfl) ?_
        refine wl_nil ?_
        refine then_normal ?_
        refine wc_ifd (p := ((reach l ((([from_, more] : List (List Val))).flatten)).2 : Int) ≠ 0) rfl (fun h731 => ?_) (fun h731 => ?_)
        · skip
          have qh731 : Value.bool (decide (((reach l ((([from_, more] : List (List Val))).flatten)).2 : Int) ≠ 0)) = Value.bool true := by rw [decide_eq_true h731]
          refine wc_seq ?_
          refine wc_region ?_
          refine wl_ok (r_assign (v := (.bool true)) rfl) ?_
          refine wl_nil ?_
          refine then_normal ?_
          refine wc_ret ?_
          refine then_ret ?_
          refine fin1 (v := (.bool true)) Try.results8 rfl ?_
          exact ⟨congrArg Ending.returned rfl, hG⟩
        · skip
          have qh731 : Value.bool (decide (((reach l ((([from_, more] : List (List Val))).flatten)).2 : Int) ≠ 0)) = Value.bool false := by rw [decide_eq_false h731]
          replace h731 := Decidable.not_not.1 h731
          have h1 := h635
          have h2 := h731
          refine wc_skip ?_
          refine then_normal ?_
          refine wc_seq ?_
          refine wc_seq ?_
          refine wc_region ?_
          refine wl_ok (r_move (v := v631) rfl) ?_
          refine wl_ok (r_len_rd (v := v631) SliceOf24 rfl ov631.rd) ?_
          refine wl_ok (r_move (v := (.int .i64 (0))) rfl) ?_
          refine wl_nil ?_
          refine then_normal ?_
          refine wc_block ?_
          have hgl := (reach_closed h1).good.le
          have hl24 := checkAll_len (reach_ok h1).1
          have s732 := ov631.rd
          have s733 := ov720.rd
          have s734 := ov725.rd
          have s735 := ov729.rd
          refine wc_loop (inl [6, 13, 70, 71, 72, 73, 74, 75, 76, 77, 78]) (σ := Nat) (fun k => [(70, (.int .i64 ((k : Nat))))]) (fun k wr => Grow w wr ∧ LtM M wr ∧ rSliceRd (rSlice rVal) wr M v l ∧ rSliceRd rVal wr M u from_ ∧ rSliceRd rVal wr M u2 more ∧ rSliceRd rInt wr M v631 (reach l from_).1 ∧ rSliceRd (rSlice rVal) wr M v720 ([from_, more] : List (List Val)) ∧ rSliceRd rVal wr M v725 (([from_, more] : List (List Val))).flatten ∧ rSliceRd rInt wr M v729 (reach l ((([from_, more] : List (List Val))).flatten)).1 ∧ k ≤ (reach l from_).1.length) (fun k => (reach l from_).1.length - k) (0) ⟨rfl, trivial⟩ ?_ ?_
          · exact ⟨hG, hL, hv, hu, hu2, s732, s733, s734, s735, Nat.zero_le _⟩
          · rintro k w736 j737 ⟨G738, L739, s740, s741, s742, s743, s744, s745, s746, lk⟩
            refine wc_seq ?_
            refine wc_region ?_
            refine wl_ok (r_lss (p := (k : Nat)) (q := ((reach l from_).1.length : Nat)) rfl rfl) ?_
            refine wl_nil ?_
            refine then_normal ?_
            refine wc_seq ?_
            refine wc_ifd (p := ((k : Nat) : Int) < ((reach l from_).1.length : Nat)) rfl (fun h747 => ?_) (fun h747 => ?_)
            · skip
              have qh747 : Value.bool (decide (((k : Nat) : Int) < ((reach l from_).1.length : Nat))) = Value.bool true := by rw [decide_eq_true h747]
              refine wc_skip ?_
              refine then_normal ?_
              refine wc_seq ?_
              refine wc_block ?_
              refine wc_seq ?_
              refine wc_region ?_
              refine wl_indexN (k := k) (v := v631) SliceOf24 rfl rfl s743 rfl (by omega) ?_
              intro p748 cs749 xp748 gp748 hp748 rp748
              obtain ⟨rfl, ip748⟩ := rp748
              refine wl_ok (r_loadP1 (p := p748) (v := (.int .i64 (xp748))) One3 rfl hp748) ?_
              refine wl_ok (r_assign (v := (.int .i64 (xp748))) rfl) ?_
              refine wl_nil ?_
              refine then_normal ?_
              refine wc_seq ?_
              refine wc_region ?_
              refine wl_ok (r_move (v := v729) rfl) ?_
              refine wl_ok (r_move (v := (.int .i64 (xp748))) rfl) ?_
              refine wl_call (args := [v729, (.int .i64 (xp748))]) fnOk37 rfl rfl (has_calls [] _ (fun x hx => absurd hx List.not_mem_nil) v729 (reach l ((([from_, more] : List (List Val))).flatten)).1 (xp748) s746.bare) ?_
              rintro _ w750 ⟨rfl, k751⟩
              refine ⟨_, rfl, ?_⟩
              replace s740 := s740.go (k751.weaken (fun _ h => absurd h List.not_mem_nil)) (fun _ h _ => h)
              replace s741 := s741.go (k751.weaken (fun _ h => absurd h List.not_mem_nil)) (fun _ h _ => h)
              replace s742 := s742.go (k751.weaken (fun _ h => absurd h List.not_mem_nil)) (fun _ h _ => h)
              replace s743 := s743.go (k751.weaken (fun _ h => absurd h List.not_mem_nil)) (fun _ h _ => h)
              replace s744 := s744.go (k751.weaken (fun _ h => absurd h List.not_mem_nil)) (fun _ h _ => h)
              replace s745 := s745.go (k751.weaken (fun _ h => absurd h List.not_mem_nil)) (fun _ h _ => h)
              replace s746 := s746.go (k751.weaken (fun _ h => absurd h List.not_mem_nil)) (fun _ h _ => h)
              replace G738 := G738.grow k751
              replace L739 := L739.grow k751
              have a752 : (xp748 : Int) ∈ (reach l ((([from_, more] : List (List Val))).flatten)).1 := (reach_sub h1 h2 _ (List.mem_of_getElem? gp748))
              have qa752 : Value.bool (decide ((xp748 : Int) ∈ (reach l ((([from_, more] : List (List Val))).flatten)).1)) = Value.bool true := by rw [decide_eq_true a752]
              refine wl_ok (r_not (b := true) qa752) ?_
              refine wl_nil ?_
              refine then_normal ?_
              refine wc_iff rfl ?_
              refine wc_skip ?_
              refine inBlock_normal ?_
              refine then_normal ?_
              refine wc_region ?_
              refine wl_ok (r_add (p := (k : Nat)) (q := 1) rfl rfl (by omega)) ?_
              refine wl_ok (r_move (v := (.int .i64 (((k : Nat) + 1)))) rfl) ?_
              refine wl_nil ?_
              refine then_loop ?_
              exact ⟨k + 1, _, rfl, (by repeat (first | (with_reducible exact Agr.hav _ _ _) | (with_reducible refine Agr.on ?_) | ((with_reducible refine Agr.hin ?_ ?_); rfl) | (with_reducible refine Agr.un ?_) | ((with_reducible refine Agr.os ?_ ?_); rfl) | ((with_reducible refine Agr.uc ?_ ?_); rfl))), ⟨rfl, trivial⟩, ⟨G738, L739, s740, s741, s742, s743, s744, s745, s746, by omega⟩, (by omega)⟩
            · skip
              have qh747 : Value.bool (decide (((k : Nat) : Int) < ((reach l from_).1.length : Nat))) = Value.bool false := by rw [decide_eq_false h747]
              refine wc_exit ?_
              refine then_exit ?_
              refine then_exit ?_
              refine inBlock_eq ?_
              refine then_normal ?_
              refine wc_seq ?_
              refine wc_quiet mixed (by kernel_rfl) ?_
              refine wq_ok (fun wq hq => (r_move (v := v631) rfl)) ?_
              refine wq_ok (fun wq hq => (r_len_rd (v := v631) SliceOf24 rfl s743)) ?_
              refine wq_ok (fun wq hq => (r_eql (p := ((reach l from_).1.length : Nat)) (q := 0) rfl rfl)) ?_
              refine wq_ok (fun wq hq => (r_move (v := (.bool (decide ((((reach l from_).1.length : Nat) : Int) = 0)))) rfl)) ?_
              refine (Decidable.em ((((reach l from_).1.length : Nat) : Int) = 0)).elim (fun h753 => ?_) (fun h753 => ?_)
              · skip
                have qh753 : Value.bool (decide ((((reach l from_).1.length : Nat) : Int) = 0)) = Value.bool true := by rw [decide_eq_true h753]
                refine wq_off (b' := true) rfl qh753 rfl ?_
                refine wq_off (b' := true) rfl qh753 rfl ?_
                refine wq_off (b' := true) rfl qh753 rfl ?_
                refine wq_off (b' := true) rfl qh753 rfl ?_
                refine wq_offU rfl rfl ?_
                refine wq_offU rfl rfl ?_
                refine wq_offU rfl rfl ?_
                refine wq_offU rfl rfl ?_
                refine wq_offU rfl rfl ?_
                refine wq_offU rfl rfl ?_
                refine wq_offU rfl rfl ?_
                refine wq_off (b' := true) rfl qh753 rfl ?_
                refine wq_ok (fun wq hq => (r_pick (b := true) (v := (.bool true)) qh753 rfl)) ?_
                refine wq_ok (fun wq hq => (r_assign (v := (.bool true)) rfl)) ?_
                refine wq_nil ?_
                intro w754 k755
                replace s740 := s740.go (k755.weaken (fun _ h => absurd h List.not_mem_nil)) (fun _ h _ => h)
                replace s741 := s741.go (k755.weaken (fun _ h => absurd h List.not_mem_nil)) (fun _ h _ => h)
                replace s742 := s742.go (k755.weaken (fun _ h => absurd h List.not_mem_nil)) (fun _ h _ => h)
                replace s743 := s743.go (k755.weaken (fun _ h => absurd h List.not_mem_nil)) (fun _ h _ => h)
                replace s744 := s744.go (k755.weaken (fun _ h => absurd h List.not_mem_nil)) (fun _ h _ => h)
                replace s745 := s745.go (k755.weaken (fun _ h => absurd h List.not_mem_nil)) (fun _ h _ => h)
                replace s746 := s746.go (k755.weaken (fun _ h => absurd h List.not_mem_nil)) (fun _ h _ => h)
                replace G738 := G738.grow k755
                replace L739 := L739.grow k755
                refine then_normal ?_
                refine wc_ret ?_
                refine fin1 (v := (.bool true)) Try.results8 rfl ?_
                exact ⟨congrArg Ending.returned rfl, G738⟩
              · skip
                have qh753 : Value.bool (decide ((((reach l from_).1.length : Nat) : Int) = 0)) = Value.bool false := by rw [decide_eq_false h753]
                refine wq_on rfl qh753 ?_
                refine wq_ok (fun wq hq => (r_move (v := v729) rfl)) ?_
                refine wq_on rfl qh753 ?_
                refine wq_ok (fun wq hq => (r_len_rd (v := v729) SliceOf24 rfl s746)) ?_
                refine wq_on rfl qh753 ?_
                refine wq_ok (fun wq hq => (r_gtr (p := ((reach l ((([from_, more] : List (List Val))).flatten)).1.length : Nat)) (q := 0) rfl rfl)) ?_
                refine wq_on rfl qh753 ?_
                refine wq_ok (fun wq hq => (r_move (v := (.bool (decide ((0 : Int) < ((reach l ((([from_, more] : List (List Val))).flatten)).1.length : Nat))))) rfl)) ?_
                have a756 : (0 : Int) < ((reach l ((([from_, more] : List (List Val))).flatten)).1.length : Nat) := (reach_some h1 h2 (by omega))
                have qa756 : Value.bool (decide ((0 : Int) < ((reach l ((([from_, more] : List (List Val))).flatten)).1.length : Nat))) = Value.bool true := by rw [decide_eq_true a756]
                refine wq_on rfl qa756 ?_
                refine wq_ok (fun wq hq => (r_move (v := v729) rfl)) ?_
                refine wq_on rfl qa756 ?_
                refine wq_index (k := 0) (v := v729) SliceOf24 rfl rfl s746 rfl (by omega) (by omega) ?_
                intro p757 cs758 xp757 gp757 hp757 rp757
                obtain ⟨rfl, ip757⟩ := rp757
                refine wq_on rfl qa756 ?_
                refine wq_ok (fun wq hq => (r_loadP1 (p := p757) (v := (.int .i64 (xp757))) One3 rfl (hp757.grow hq))) ?_
                refine wq_on rfl qa756 ?_
                refine wq_ok (fun wq hq => (r_move (v := v631) rfl)) ?_
                refine wq_on rfl qa756 ?_
                refine wq_index (k := 0) (v := v631) SliceOf24 rfl rfl s743 rfl (by omega) (by omega) ?_
                intro p759 cs760 xp759 gp759 hp759 rp759
                obtain ⟨rfl, ip759⟩ := rp759
                refine wq_on rfl qa756 ?_
                refine wq_ok (fun wq hq => (r_loadP1 (p := p759) (v := (.int .i64 (xp759))) One3 rfl (hp759.grow hq))) ?_
                refine wq_on rfl qa756 ?_
                refine wq_ok (fun wq hq => (r_eql (p := xp757) (q := xp759) rfl rfl)) ?_
                refine wq_on rfl qh753 ?_
                refine wq_ok (fun wq hq => (r_pick (b := true) (v := (.bool (decide ((xp757 : Int) = xp759)))) qa756 rfl)) ?_
                refine wq_ok (fun wq hq => (r_pick (b := false) (v := (.bool (decide ((xp757 : Int) = xp759)))) qh753 rfl)) ?_
                refine wq_ok (fun wq hq => (r_assign (v := (.bool (decide ((xp757 : Int) = xp759)))) rfl)) ?_
                refine wq_nil ?_
                intro w761 k762
                replace s740 := s740.go (k762.weaken (fun _ h => absurd h List.not_mem_nil)) (fun _ h _ => h)
                replace s741 := s741.go (k762.weaken (fun _ h => absurd h List.not_mem_nil)) (fun _ h _ => h)
                replace s742 := s742.go (k762.weaken (fun _ h => absurd h List.not_mem_nil)) (fun _ h _ => h)
                replace s743 := s743.go (k762.weaken (fun _ h => absurd h List.not_mem_nil)) (fun _ h _ => h)
                replace s744 := s744.go (k762.weaken (fun _ h => absurd h List.not_mem_nil)) (fun _ h _ => h)
                replace s745 := s745.go (k762.weaken (fun _ h => absurd h List.not_mem_nil)) (fun _ h _ => h)
                replace s746 := s746.go (k762.weaken (fun _ h => absurd h List.not_mem_nil)) (fun _ h _ => h)
                replace G738 := G738.grow k762
                replace L739 := L739.grow k762
                refine then_normal ?_
                refine wc_ret ?_
                refine fin1 (v := (.bool (decide ((xp757 : Int) = xp759)))) Try.results8 rfl ?_
                have a763 : (xp757 : Int) = xp759 := (Option.some.inj (gp757.symm.trans (reach_first h1 h2 gp759)))
                have qa763 : Value.bool (decide ((xp757 : Int) = xp759)) = Value.bool true := by rw [decide_eq_true a763]
                exact ⟨congrArg Ending.returned qa763, G738⟩

end Go.Proofs.Ytkjajililnbimaa
