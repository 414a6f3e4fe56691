import Derived.Test.YtkjajililnbimaaWalkE

set_option linter.unusedSimpArgs false
set_option linter.unusedVariables false
namespace Go.Proofs.Ytkjajililnbimaa
open Go Go.Proofs Go.WX
theorem fnOk73 : FnOk Try.prog 73 := ⟨_, Try.func73, by kernel_rfl, rfl⟩
theorem cloneRows_calls (M : List Nat) (w : World) (hL : LtM M w) (v : Value) (l : List (List Val)) (hv : rSliceRd (rSlice rVal) w M v l) (hb : l.length ≤ 1000000) : Calls Try.prog 35 #[v] w
    (fun e w' => ∃ r, e = .returned r ∧ OwnSl (rSlice rVal) 28 w' M r l ∧ (∀ x ∈ ob r, w.heap.size ≤ x) ∧ Grow w w') := by
  refine calls_start (args := [v]) Try.func35 rfl Try.ntmps35 (Nat.le_of_ble_eq_true rfl) ?_
  have hG : Grow w w := Keep.refl _ _
  refine wc_seq ?_
  refine wc_region ?_
  refine wl_ok (r_assign (v := (.slice none 0 0)) rfl) ?_
  refine wl_nil ?_
  refine then_normal ?_
  refine wc_seq ?_
  refine wc_seq ?_
  refine wc_region ?_
  refine wl_ok (r_move (v := v) rfl) ?_
  refine wl_ok (r_eqnil SliceOf27 rfl hv rfl) ?_
  refine wl_nil ?_
  refine then_normal ?_
  refine wc_if (t := isNil v) rfl (fun h576 => ?_) (fun h576 => ?_)
  · skip
    have qh576 : Value.bool (isNil v) = Value.bool true := by rw [h576]
    refine wc_seq ?_
    refine wc_region ?_
    refine wl_ok (r_assign (v := (.slice none 0 0)) rfl) ?_
    refine wl_nil ?_
    refine then_normal ?_
    refine wc_ret ?_
    refine then_ret ?_
    refine fin1 (v := (.slice none 0 0)) Try.results35 rfl ?_
    obtain ⟨_, rfl⟩ := nil_of_isNil hv h576
    exact ⟨_, rfl, OwnSl.nil, fresh_nil, hG⟩
  · skip
    have qh576 : Value.bool (isNil v) = Value.bool false := by rw [h576]
    refine wc_skip ?_
    refine then_normal ?_
    refine wc_seq ?_
    refine wc_region ?_
    refine wl_buildSlice (R := (rSlice rVal)) (M := M) (vs := []) (xs := []) ElemOf27 rfl rfl rfl trivial hL (by decide) ?_
    intro w577 v578 k579 ov578 uv578
    have z580 : ∀ x ∈ ob v578, w.heap.size ≤ x := fresh_new hG.size rfl uv578
    replace hv := hv.go (k579.weaken (fun _ h => absurd h List.not_mem_nil)) (mem_newO (fun b hb => Nat.le_of_eq (uv578 b hb)))
    replace hG := hG.grow k579
    replace hL := hL.grow k579
    replace hL := hL.own ov578
    refine wl_ok (r_move (v := v) rfl) ?_
    refine wl_append (R := (rSlice rVal)) (v := v578) (u := v) (l := ([] : List (List Val))) (m := l) (M := M) ElemOf27 rfl rfl ov578 rfl hv (fun x hx => hL x (List.mem_append_right _ hx)) (by first | omega | (simp; omega)) (by first | omega | (simp; omega)) ?_
    intro v581 w582 ov581 k583 uv581
    have z584 : ∀ x ∈ ob v581, w.heap.size ≤ x := fresh_app z580 hG.size uv581
    replace hv := hv.go (k583.weaken (fun x hx _ => by simp [hx])) (mem_mid [] uv581)
    replace hG := hG.stepF k583 z580
    replace hL := hL.grow k583
    replace hL := hL.swap [] ov581.lt
    refine wl_ok (r_assign (v := v581) rfl) ?_
    refine wl_nil ?_
    refine then_normal ?_
    refine wc_ret ?_
    refine fin1 (v := v581) Try.results35 rfl ?_
    exact ⟨_, rfl, (by simpa using ov581), z584, hG⟩

theorem flat_take_le {α : Type} {l : List (List α)} {k : Nat} : (l.take k).flatten.length ≤ l.flatten.length := by
  have h := congrArg (fun z => z.flatten.length) (List.take_append_drop k l)
  simp only [List.flatten_append, List.length_append] at h
  omega
theorem concat_calls (M : List Nat) (w : World) (hL : LtM M w) (v : Value) (ll : List (List Val)) (hv : rSliceRd (rSlice rVal) w M v ll) (hb : ll.flatten.length ≤ 1000000) : Calls Try.prog 36 #[v] w
    (fun e w' => ∃ r, e = .returned r ∧ OwnSl rVal 34 w' M r ll.flatten ∧ (∀ x ∈ ob r, w.heap.size ≤ x) ∧ Grow w w') := by
  refine calls_start (args := [v]) Try.func36 rfl Try.ntmps36 (Nat.le_of_ble_eq_true rfl) ?_
  have hG : Grow w w := Keep.refl _ _
  have hl := hv.len_le
  refine wc_seq ?_
  refine wc_region ?_
  refine wl_ok (r_assign (v := (.slice none 0 0)) rfl) ?_
  refine wl_nil ?_
  refine then_normal ?_
  refine wc_seq ?_
  refine wc_region ?_
  refine wl_ok (r_assign (v := (.int .i64 (0))) rfl) ?_
  refine wl_nil ?_
  refine then_normal ?_
  refine wc_seq ?_
  refine wc_seq ?_
  refine wc_region ?_
  refine wl_ok (r_move (v := v) rfl) ?_
  refine wl_ok (r_len_rd (v := v) SliceOf27 rfl hv) ?_
  refine wl_ok (r_move (v := (.int .i64 (0))) rfl) ?_
  refine wl_nil ?_
  refine then_normal ?_
  refine wc_block ?_
  refine wc_loop (inl [3, 5, 11, 12, 13, 14, 15, 16, 17, 18, 19, 20, 21, 22]) (σ := Nat × Nat) (fun (k, s) => [(11, (.int .i64 ((k : Nat)))), (3, (.int .i64 ((s : Nat))))]) (fun (k, s) wr => Grow w wr ∧ LtM M wr ∧ rSliceRd (rSlice rVal) wr M v ll ∧ k ≤ ll.length ∧ s = (ll.take k).flatten.length) (fun (k, s) => ll.length - k) ((0, 0)) ⟨rfl, rfl, trivial⟩ ?_ ?_
  · exact ⟨hG, hL, hv, Nat.zero_le _, by simp⟩
  · rintro ⟨k, s⟩ w585 j586 ⟨G587, L588, s589, lk, ts⟩
    have hfl := flat_take_le (l := ll) (k := k)
    have hfl2 := flat_take_le (l := ll) (k := k + 1)
    refine wc_seq ?_
    refine wc_region ?_
    refine wl_ok (r_lss (p := (k : Nat)) (q := (ll.length : Nat)) rfl rfl) ?_
    refine wl_nil ?_
    refine then_normal ?_
    refine wc_seq ?_
    refine wc_ifd (p := ((k : Nat) : Int) < (ll.length : Nat)) rfl (fun h590 => ?_) (fun h590 => ?_)
    · skip
      have qh590 : Value.bool (decide (((k : Nat) : Int) < (ll.length : Nat))) = Value.bool true := by rw [decide_eq_true h590]
      refine wc_skip ?_
      refine then_normal ?_
      refine wc_seq ?_
      refine wc_block ?_
      refine wc_seq ?_
      refine wc_region ?_
      refine wl_indexN (k := k) (v := v) SliceOf27 rfl rfl s589 rfl (by omega) ?_
      intro p591 cs592 xp591 gp591 hp591 rp591
      obtain ⟨vp591, rfl, sp591⟩ := rp591
      have zp591 := sp591.len_le
      have hsn := congrArg (fun z => z.flatten.length) (take_snoc gp591)
      simp only [List.flatten_append, List.length_append, List.flatten_cons, List.flatten_nil, List.append_nil] at hsn
      refine wl_ok (r_loadP1 (p := p591) (v := vp591) One28 rfl hp591) ?_
      refine wl_ok (r_assign (v := vp591) rfl) ?_
      refine wl_nil ?_
      refine then_normal ?_
      refine wc_seq ?_
      refine wc_region ?_
      refine wl_ok (r_move (v := (.int .i64 ((s : Nat)))) rfl) ?_
      refine wl_ok (r_move (v := vp591) rfl) ?_
      refine wl_ok (r_len_rd (v := vp591) SliceOf28 rfl sp591) ?_
      refine wl_ok (r_add (p := (s : Nat)) (q := (xp591.length : Nat)) rfl rfl (by omega)) ?_
      refine wl_ok (r_assign (v := (.int .i64 (((s : Nat) + (xp591.length : Nat))))) rfl) ?_
      refine wl_nil ?_
      refine then_normal ?_
      refine wc_seq ?_
      refine wc_region ?_
      refine wl_ok (r_move (v := (.int .i64 (((s : Nat) + (xp591.length : Nat))))) rfl) ?_
      refine wl_ok (r_lss (p := ((s : Nat) + (xp591.length : Nat))) (q := 0) rfl rfl) ?_
      refine wl_nil ?_
      refine then_normal ?_
      have a593 : ¬ ((((s : Nat) + (xp591.length : Nat)) : Int) < 0) := (by omega)
      have qa593 : Value.bool (decide ((((s : Nat) + (xp591.length : Nat)) : Int) < 0)) = Value.bool false := by rw [decide_eq_false a593]
      refine wc_iff qa593 ?_
      refine wc_skip ?_
      refine inBlock_normal ?_
      refine then_normal ?_
      refine wc_region ?_
      refine wl_ok (r_add (p := (k : Nat)) (q := 1) rfl rfl (by omega)) ?_
      refine wl_ok (r_move (v := (.int .i64 (((k : Nat) + 1)))) rfl) ?_
      refine wl_nil ?_
      refine then_loop ?_
      exact ⟨(k + 1, s + xp591.length), _, rfl, (by repeat (first | (with_reducible exact Agr.hav _ _ _) | (with_reducible refine Agr.on ?_) | ((with_reducible refine Agr.hin ?_ ?_); rfl) | (with_reducible refine Agr.un ?_) | ((with_reducible refine Agr.os ?_ ?_); rfl) | ((with_reducible refine Agr.uc ?_ ?_); rfl))), ⟨rfl, (congrArg (Value.int .i64) (by omega)), trivial⟩, ⟨G587, L588, s589, by omega, (by rw [take_snoc gp591, List.flatten_append, List.length_append, ← ts]; simp)⟩, (by dsimp only; omega)⟩
    · skip
      have qh590 : Value.bool (decide (((k : Nat) : Int) < (ll.length : Nat))) = Value.bool false := by rw [decide_eq_false h590]
      refine wc_exit ?_
      refine then_exit ?_
      refine then_exit ?_
      refine inBlock_eq ?_
      refine then_normal ?_
      refine wc_seq ?_
      refine wc_region ?_
      refine wl_ok (r_move (v := (.int .i64 ((s : Nat)))) rfl) ?_
      refine wl_callIn (args := [(.slice none 0 0), (.int .i64 ((s : Nat)))]) fnOk73 rfl rfl ?_
      refine calls_start (args := [(.slice none 0 0), (.int .i64 ((s : Nat)))]) Try.func73 rfl Try.ntmps73 (Nat.le_of_ble_eq_true rfl) ?_
      refine wc_seq ?_
      refine wc_region ?_
      refine wl_ok (r_assign (v := (.slice none 0 0)) rfl) ?_
      refine wl_nil ?_
      refine then_normal ?_
      refine wc_seq ?_
      refine wc_seq ?_
      refine wc_region ?_
      refine wl_ok (r_move (v := (.int .i64 ((s : Nat)))) rfl) ?_
      refine wl_ok (r_lss (p := (s : Nat)) (q := 0) rfl rfl) ?_
      refine wl_nil ?_
      refine then_normal ?_
      have a594 : ¬ (((s : Nat) : Int) < 0) := (by omega)
      have qa594 : Value.bool (decide (((s : Nat) : Int) < 0)) = Value.bool false := by rw [decide_eq_false a594]
      refine wc_iff qa594 ?_
      refine wc_skip ?_
      refine then_normal ?_
      refine wc_seq ?_
      refine wc_seq ?_
      refine wc_region ?_
      refine wl_ok (r_move (v := (.int .i64 ((s : Nat)))) rfl) ?_
      refine wl_ok (r_move (v := (.slice none 0 0)) rfl) ?_
      refine wl_ok (r_cap (a := none) (l := 0) (c := 0) SliceOf28 rfl) ?_
      refine wl_ok (r_move (v := (.slice none 0 0)) rfl) ?_
      refine wl_ok (r_len_slice (a := none) (l := 0) (c := 0) SliceOf28 rfl) ?_
      refine wl_ok (r_sub (p := (0 : Nat)) (q := (0 : Nat)) rfl rfl (by omega)) ?_
      refine wl_ok (r_sub (p := (s : Nat)) (q := ((0 : Nat) - (0 : Nat))) rfl rfl (by omega)) ?_
      refine wl_ok (r_assign (v := (.int .i64 (((s : Nat) - ((0 : Nat) - (0 : Nat)))))) rfl) ?_
      refine wl_nil ?_
      refine then_normal ?_
      refine wc_seq ?_
      refine wc_region ?_
      refine wl_ok (r_move (v := (.int .i64 (((s : Nat) - ((0 : Nat) - (0 : Nat)))))) rfl) ?_
      refine wl_ok (r_gtr (p := ((s : Nat) - ((0 : Nat) - (0 : Nat)))) (q := 0) rfl rfl) ?_
      refine wl_nil ?_
      refine then_normal ?_
      refine wc_ifd (p := (0 : Int) < ((s : Nat) - ((0 : Nat) - (0 : Nat)))) rfl (fun h595 => ?_) (fun h595 => ?_)
      · skip
        have qh595 : Value.bool (decide ((0 : Int) < ((s : Nat) - ((0 : Nat) - (0 : Nat))))) = Value.bool true := by rw [decide_eq_true h595]
        refine wc_region ?_
        refine wl_ok (r_move (v := (.slice none 0 0)) rfl) ?_
        refine wl_ok (r_move (v := (.slice none 0 0)) rfl) ?_
        refine wl_ok (r_cap (a := none) (l := 0) (c := 0) SliceOf28 rfl) ?_
        refine wl_ok (r_sliceTo (b := 0) SliceOf28 rfl (.inl rfl) (.inl ⟨rfl, rfl⟩) rfl (Nat.le_refl _)) ?_
        refine wl_ok (r_move (v := (.int .i64 (((s : Nat) - ((0 : Nat) - (0 : Nat)))))) rfl) ?_
        have yv597 : Value.int .i64 ((s : Nat) - ((0 : Nat) - (0 : Nat))) = Value.int .i64 (s : Nat) := by rw [show (((s : Nat) - ((0 : Nat) - (0 : Nat))) : Int) = ((s : Nat) : Int) from by omega]
        refine wl_appendZeros (k := s) ElemOf28 Try.underlying3 rfl yv597 (by omega) (by decide) (by omega) (by simp only [maxLen]; omega) ?_
        intro w596 v597 k598 ⟨xsv597, rwv597⟩ uv597
        have z599 : ∀ x ∈ ob v597, w.heap.size ≤ x := fresh_new G587.size rfl uv597
        have nmv597 : ∀ x ∈ ob v597, x ∉ M := fun x hx hm => by have h1 := uv597 x hx; have h2 := L588 x hm; omega
        replace s589 := s589.go (k598.weaken (fun _ h => absurd h List.not_mem_nil)) (mem_newO (fun b hb => Nat.le_of_eq (uv597 b hb)))
        replace G587 := G587.grow k598
        replace L588 := L588.grow k598
        replace L588 : LtM (ob v597 ++ M) w596 := fun x hx => (List.mem_append.1 hx).elim (fun h => (rwv597.lt x (ob_row.1 h)).2) (L588 x)
        refine wl_ok (r_move (v := (.slice none 0 0)) rfl) ?_
        refine wl_ok (r_len_slice (a := none) (l := 0) (c := 0) SliceOf28 rfl) ?_
        refine wl_sliceRoom (v := v597) (R := rVal) (M := M) SliceOf28 rfl rfl ⟨xsv597, rwv597⟩ nmv597 (.inl ⟨rfl, rfl⟩) rfl ?_
        intro v600 ov600 ev600
        have zv600 : ∀ x ∈ ob v600, w.heap.size ≤ x := by rw [ev600]; exact z599
        rw [← ev600] at L588
        rw [← ev600] at s589
        refine wl_ok (r_assign (v := v600) rfl) ?_
        refine wl_nil ?_
        refine then_normal ?_
        refine wc_seq ?_
        refine wc_region ?_
        refine wl_ok (r_move (v := v600) rfl) ?_
        refine wl_ok (r_assign (v := v600) rfl) ?_
        refine wl_nil ?_
        refine then_normal ?_
        refine wc_ret ?_
        refine fin1 (v := v600) Try.results73 rfl ?_
        refine ⟨_, rfl, ?_⟩
        refine wl_ok (r_assign (v := v600) rfl) ?_
        refine wl_nil ?_
        refine then_normal ?_
        refine wc_seq ?_
        refine wc_seq ?_
        refine wc_region ?_
        refine wl_ok (r_move (v := v) rfl) ?_
        refine wl_ok (r_len_rd (v := v) SliceOf27 rfl s589) ?_
        refine wl_ok (r_move (v := (.int .i64 (0))) rfl) ?_
        refine wl_nil ?_
        refine then_normal ?_
        refine wc_block ?_
        refine wc_loop (inl [6, 8, 27, 28, 29, 30, 31, 32, 33, 34]) (σ := Nat × List Val × Value) (fun (i, al, q) => [(27, (.int .i64 ((i : Nat)))), (6, q)]) (fun (i, al, q) wr => Grow w wr ∧ LtM (ob q ++ M) wr ∧ rSliceRd (rSlice rVal) wr (ob q ++ M) v ll ∧ OwnSl rVal 34 wr M q al ∧ (∀ x ∈ ob q, w.heap.size ≤ x) ∧ i ≤ ll.length ∧ al = (ll.take i).flatten) (fun (i, al, q) => ll.length - i) ((0, [], v600)) ⟨rfl, rfl, trivial⟩ ?_ ?_
        · exact ⟨G587, L588, s589, ov600, zv600, Nat.zero_le _, by simp⟩
        · rintro ⟨i, al, q⟩ w601 j602 ⟨G603, L604, s605, o606, z607, li, tq⟩
          have hal := congrArg List.length tq
          have hfl3 := flat_take_le (l := ll) (k := i)
          have hfl4 := flat_take_le (l := ll) (k := i + 1)
          refine wc_seq ?_
          refine wc_region ?_
          refine wl_ok (r_lss (p := (i : Nat)) (q := (ll.length : Nat)) rfl rfl) ?_
          refine wl_nil ?_
          refine then_normal ?_
          refine wc_seq ?_
          refine wc_ifd (p := ((i : Nat) : Int) < (ll.length : Nat)) rfl (fun h608 => ?_) (fun h608 => ?_)
          · skip
            have qh608 : Value.bool (decide (((i : Nat) : Int) < (ll.length : Nat))) = Value.bool true := by rw [decide_eq_true h608]
            refine wc_skip ?_
            refine then_normal ?_
            refine wc_seq ?_
            refine wc_block ?_
            refine wc_seq ?_
            refine wc_region ?_
            refine wl_indexN (k := i) (v := v) SliceOf27 rfl rfl s605 rfl (by omega) ?_
            intro p609 cs610 xp609 gp609 hp609 rp609
            obtain ⟨vp609, rfl, sp609⟩ := rp609
            have zp609 := sp609.len_le
            have hsn := congrArg (fun z => z.flatten.length) (take_snoc gp609)
            simp only [List.flatten_append, List.length_append, List.flatten_cons, List.flatten_nil, List.append_nil] at hsn
            refine wl_ok (r_loadP1 (p := p609) (v := vp609) One28 rfl hp609) ?_
            refine wl_ok (r_assign (v := vp609) rfl) ?_
            refine wl_nil ?_
            refine then_normal ?_
            refine wc_region ?_
            refine wl_ok (r_move (v := q) rfl) ?_
            refine wl_ok (r_move (v := vp609) rfl) ?_
            refine wl_append (R := rVal) (v := q) (u := vp609) (l := al) (m := xp609) (M := M) ElemOf28 rfl rfl o606 rfl sp609 (fun x hx => L604 x (List.mem_append_right _ hx)) (by first | omega | (simp; omega)) (by first | omega | (simp; omega)) ?_
            intro v611 w612 ov611 k613 uv611
            have z614 : ∀ x ∈ ob v611, w.heap.size ≤ x := fresh_app z607 G603.size uv611
            replace s605 := s605.go (k613.weaken (fun x hx _ => by simp [hx])) (mem_mid [] uv611)
            replace sp609 := sp609.go (k613.weaken (fun x hx _ => by simp [hx])) (mem_mid [] uv611)
            replace G603 := G603.stepF k613 z607
            replace L604 := L604.grow k613
            replace L604 := L604.swap [] ov611.lt
            refine wl_ok (r_assign (v := v611) rfl) ?_
            refine wl_nil ?_
            refine inBlock_normal ?_
            refine then_normal ?_
            refine wc_region ?_
            refine wl_ok (r_add (p := (i : Nat)) (q := 1) rfl rfl (by omega)) ?_
            refine wl_ok (r_move (v := (.int .i64 (((i : Nat) + 1)))) rfl) ?_
            refine wl_nil ?_
            refine then_loop ?_
            exact ⟨(i + 1, (al ++ xp609), v611), _, rfl, (by repeat (first | (with_reducible exact Agr.hav _ _ _) | (with_reducible refine Agr.on ?_) | ((with_reducible refine Agr.hin ?_ ?_); rfl) | (with_reducible refine Agr.un ?_) | ((with_reducible refine Agr.os ?_ ?_); rfl) | ((with_reducible refine Agr.uc ?_ ?_); rfl))), ⟨rfl, rfl, trivial⟩, ⟨G603, L604, s605, ov611, z614, by omega, (by rw [take_snoc gp609, List.flatten_append, tq]; simp)⟩, (by dsimp only; omega)⟩
          · skip
            have qh608 : Value.bool (decide (((i : Nat) : Int) < (ll.length : Nat))) = Value.bool false := by rw [decide_eq_false h608]
            refine wc_exit ?_
            refine then_exit ?_
            refine then_exit ?_
            refine inBlock_eq ?_
            refine then_normal ?_
            refine wc_seq ?_
            refine wc_region ?_
            refine wl_ok (r_move (v := q) rfl) ?_
            refine wl_ok (r_assign (v := q) rfl) ?_
            refine wl_nil ?_
            refine then_normal ?_
            refine wc_ret ?_
            refine fin1 (v := q) Try.results36 rfl ?_
            have fin : al = ll.flatten := by rw [tq, List.take_of_length_le (by omega)]
            exact ⟨_, rfl, by rw [← fin]; exact o606, z607, G603⟩
      · skip
        have qh595 : Value.bool (decide ((0 : Int) < ((s : Nat) - ((0 : Nat) - (0 : Nat))))) = Value.bool false := by rw [decide_eq_false h595]
        refine wc_skip ?_
        refine then_normal ?_
        refine wc_seq ?_
        refine wc_region ?_
        refine wl_ok (r_move (v := (.slice none 0 0)) rfl) ?_
        refine wl_ok (r_assign (v := (.slice none 0 0)) rfl) ?_
        refine wl_nil ?_
        refine then_normal ?_
        refine wc_ret ?_
        refine fin1 (v := (.slice none 0 0)) Try.results73 rfl ?_
        refine ⟨_, rfl, ?_⟩
        refine wl_ok (r_assign (v := (.slice none 0 0)) rfl) ?_
        refine wl_nil ?_
        refine then_normal ?_
        refine wc_seq ?_
        refine wc_seq ?_
        refine wc_region ?_
        refine wl_ok (r_move (v := v) rfl) ?_
        refine wl_ok (r_len_rd (v := v) SliceOf27 rfl s589) ?_
        refine wl_ok (r_move (v := (.int .i64 (0))) rfl) ?_
        refine wl_nil ?_
        refine then_normal ?_
        refine wc_block ?_
        refine wc_loop (inl [6, 8, 27, 28, 29, 30, 31, 32, 33, 34]) (σ := Nat × List Val × Value) (fun (i, al, q) => [(27, (.int .i64 ((i : Nat)))), (6, q)]) (fun (i, al, q) wr => Grow w wr ∧ LtM (ob q ++ M) wr ∧ rSliceRd (rSlice rVal) wr (ob q ++ M) v ll ∧ OwnSl rVal 34 wr M q al ∧ (∀ x ∈ ob q, w.heap.size ≤ x) ∧ i ≤ ll.length ∧ al = (ll.take i).flatten) (fun (i, al, q) => ll.length - i) ((0, [], .slice none 0 0)) ⟨rfl, rfl, trivial⟩ ?_ ?_
        · exact ⟨G587, L588, s589, OwnSl.nil, fresh_nil, Nat.zero_le _, by simp⟩
        · rintro ⟨i, al, q⟩ w615 j616 ⟨G617, L618, s619, o620, z621, li, tq⟩
          have hal := congrArg List.length tq
          have hfl3 := flat_take_le (l := ll) (k := i)
          have hfl4 := flat_take_le (l := ll) (k := i + 1)
          refine wc_seq ?_
          refine wc_region ?_
          refine wl_ok (r_lss (p := (i : Nat)) (q := (ll.length : Nat)) rfl rfl) ?_
          refine wl_nil ?_
          refine then_normal ?_
          refine wc_seq ?_
          refine wc_ifd (p := ((i : Nat) : Int) < (ll.length : Nat)) rfl (fun h622 => ?_) (fun h622 => ?_)
          · skip
            have qh622 : Value.bool (decide (((i : Nat) : Int) < (ll.length : Nat))) = Value.bool true := by rw [decide_eq_true h622]
            refine wc_skip ?_
            refine then_normal ?_
            refine wc_seq ?_
            refine wc_block ?_
            refine wc_seq ?_
            refine wc_region ?_
            refine wl_indexN (k := i) (v := v) SliceOf27 rfl rfl s619 rfl (by omega) ?_
            intro p623 cs624 xp623 gp623 hp623 rp623
            obtain ⟨vp623, rfl, sp623⟩ := rp623
            have zp623 := sp623.len_le
            have hsn := congrArg (fun z => z.flatten.length) (take_snoc gp623)
            simp only [List.flatten_append, List.length_append, List.flatten_cons, List.flatten_nil, List.append_nil] at hsn
            refine wl_ok (r_loadP1 (p := p623) (v := vp623) One28 rfl hp623) ?_
            refine wl_ok (r_assign (v := vp623) rfl) ?_
            refine wl_nil ?_
            refine then_normal ?_
            refine wc_region ?_
            refine wl_ok (r_move (v := q) rfl) ?_
            refine wl_ok (r_move (v := vp623) rfl) ?_
            refine wl_append (R := rVal) (v := q) (u := vp623) (l := al) (m := xp623) (M := M) ElemOf28 rfl rfl o620 rfl sp623 (fun x hx => L618 x (List.mem_append_right _ hx)) (by first | omega | (simp; omega)) (by first | omega | (simp; omega)) ?_
            intro v625 w626 ov625 k627 uv625
            have z628 : ∀ x ∈ ob v625, w.heap.size ≤ x := fresh_app z621 G617.size uv625
            replace s619 := s619.go (k627.weaken (fun x hx _ => by simp [hx])) (mem_mid [] uv625)
            replace sp623 := sp623.go (k627.weaken (fun x hx _ => by simp [hx])) (mem_mid [] uv625)
            replace G617 := G617.stepF k627 z621
            replace L618 := L618.grow k627
            replace L618 := L618.swap [] ov625.lt
            refine wl_ok (r_assign (v := v625) rfl) ?_
            refine wl_nil ?_
            refine inBlock_normal ?_
            refine then_normal ?_
            refine wc_region ?_
            refine wl_ok (r_add (p := (i : Nat)) (q := 1) rfl rfl (by omega)) ?_
            refine wl_ok (r_move (v := (.int .i64 (((i : Nat) + 1)))) rfl) ?_
            refine wl_nil ?_
            refine then_loop ?_
            exact ⟨(i + 1, (al ++ xp623), v625), _, rfl, (by repeat (first | (with_reducible exact Agr.hav _ _ _) | (with_reducible refine Agr.on ?_) | ((with_reducible refine Agr.hin ?_ ?_); rfl) | (with_reducible refine Agr.un ?_) | ((with_reducible refine Agr.os ?_ ?_); rfl) | ((with_reducible refine Agr.uc ?_ ?_); rfl))), ⟨rfl, rfl, trivial⟩, ⟨G617, L618, s619, ov625, z628, by omega, (by rw [take_snoc gp623, List.flatten_append, tq]; simp)⟩, (by dsimp only; omega)⟩
          · skip
            have qh622 : Value.bool (decide (((i : Nat) : Int) < (ll.length : Nat))) = Value.bool false := by rw [decide_eq_false h622]
            refine wc_exit ?_
            refine then_exit ?_
            refine then_exit ?_
            refine inBlock_eq ?_
            refine then_normal ?_
            refine wc_seq ?_
            refine wc_region ?_
            refine wl_ok (r_move (v := q) rfl) ?_
            refine wl_ok (r_assign (v := q) rfl) ?_
            refine wl_nil ?_
            refine then_normal ?_
            refine wc_ret ?_
            refine fin1 (v := q) Try.results36 rfl ?_
            have fin : al = ll.flatten := by rw [tq, List.take_of_length_le (by omega)]
            exact ⟨_, rfl, by rw [← fin]; exact o620, z621, G617⟩

end Go.Proofs.Ytkjajililnbimaa
