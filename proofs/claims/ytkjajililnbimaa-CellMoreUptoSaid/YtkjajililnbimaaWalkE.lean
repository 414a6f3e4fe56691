import Derived.Test.YtkjajililnbimaaWalkD

set_option linter.unusedSimpArgs false
set_option linter.unusedVariables false
namespace Go.Proofs.Ytkjajililnbimaa
open Go Go.Proofs Go.WX
theorem fnOk28 : FnOk Try.prog 28 := ⟨_, Try.func28, by kernel_rfl, rfl⟩
theorem fnOk32 : FnOk Try.prog 32 := ⟨_, Try.func32, by kernel_rfl, rfl⟩
theorem fnOk33 : FnOk Try.prog 33 := ⟨_, Try.func33, by kernel_rfl, rfl⟩
theorem fnOk34 : FnOk Try.prog 34 := ⟨_, Try.func34, by kernel_rfl, rfl⟩
theorem cellSays_calls (M : List Nat) (w : World) (hL : LtM M w) (v : Value) (l : List (List Val)) (u : Value) (from_ : List Val) (a b c : Int) (v2 : Value) (m : List (List Val)) (hv : rSliceRd (rSlice rVal) w M v l) (hu : rSliceRd rVal w M u from_) (hm : rSliceRd (rSlice rVal) w M v2 m) : Calls Try.prog 7 #[v, u, .agg #[.int .i64 a, .int .i64 b], .int .i64 c, v2] w
    (fun e w' => e = .returned (.bool true) ∧ Grow w w') := by
  refine calls_start (args := [v, u, (.agg #[(.int .i64 (a)), (.int .i64 (b))]), (.int .i64 (c)), v2]) Try.func7 rfl Try.ntmps7 (Nat.le_of_ble_eq_true rfl) ?_
  have hG : Grow w w := Keep.refl _ _
  have hl := hv.len_le
  have hlu := hu.len_le
  refine wc_seq ?_
  refine wc_region ?_
  refine wl_box (cs := [(.int .i64 (a)), (.int .i64 (b))]) rfl ?_
  intro w518 b519 eb519 kb519 Bb519
  have lb519 : w.heap.size ≤ b519 := by have := hG.size; omega
  replace hv := hv.go (kb519.weaken (fun _ h => absurd h List.not_mem_nil)) (mem_new eb519)
  replace hu := hu.go (kb519.weaken (fun _ h => absurd h List.not_mem_nil)) (mem_new eb519)
  replace hm := hm.go (kb519.weaken (fun _ h => absurd h List.not_mem_nil)) (mem_new eb519)
  replace hG := hG.grow kb519
  replace hL := hL.grow kb519
  replace hL := hL.cons Bb519.lt
  refine wl_ok (r_assign (v := (.bool false)) rfl) ?_
  refine wl_nil ?_
  refine then_normal ?_
  refine wc_seq ?_
  refine wc_region ?_
  refine wl_ok (r_move (v := v) rfl) ?_
  refine wl_ok (r_move (v := u) rfl) ?_
  refine wl_call (args := [v, u]) fnOk15 rfl rfl (reach_calls (b519 :: M) _ hL v l u from_ hv hu) ?_
  rintro _ w520 ⟨v522, rfl, ov522, fv522, k521⟩
  refine ⟨_, rfl, ?_⟩
  have z523 : ∀ x ∈ ob v522, w.heap.size ≤ x := fun x hx => Nat.le_trans hG.size (fv522 x hx)
  replace Bb519 := Bb519.grow k521
  replace hv := hv.go (k521.weaken (fun _ h => absurd h List.not_mem_nil)) (fun _ h _ => h)
  replace hu := hu.go (k521.weaken (fun _ h => absurd h List.not_mem_nil)) (fun _ h _ => h)
  replace hm := hm.go (k521.weaken (fun _ h => absurd h List.not_mem_nil)) (fun _ h _ => h)
  replace hG := hG.grow k521
  replace hL := hL.grow k521
  refine wl_ok (r_move (v := (.tuple #[v522, (.int .i64 ((reach l from_).2))])) rfl) ?_
  refine wl_ok (r_extract (vs := [v522, (.int .i64 ((reach l from_).2))]) (v := v522) rfl rfl) ?_
  refine wl_ok (r_extract (vs := [v522, (.int .i64 ((reach l from_).2))]) (v := (.int .i64 ((reach l from_).2))) rfl rfl) ?_
  refine wl_ok (r_assign (v := v522) rfl) ?_
  refine wl_ok (r_assign (v := (.int .i64 ((reach l from_).2))) rfl) ?_
  refine wl_nil ?_
  refine then_normal ?_
  refine wc_seq ?_
  refine wc_region ?_
  refine wl_ok (r_move (v := v) rfl) ?_
  refine wl_call (args := [v]) fnOk28 rfl rfl (refAll_calls [] _ (fun x hx => absurd hx List.not_mem_nil) v l hv.bare) ?_
  rintro _ w524 ⟨rfl, k525⟩
  refine ⟨_, rfl, ?_⟩
  replace Bb519 := Bb519.grow k525
  replace hv := hv.go (k525.weaken (fun _ h => absurd h List.not_mem_nil)) (fun _ h _ => h)
  replace hu := hu.go (k525.weaken (fun _ h => absurd h List.not_mem_nil)) (fun _ h _ => h)
  replace hm := hm.go (k525.weaken (fun _ h => absurd h List.not_mem_nil)) (fun _ h _ => h)
  replace ov522 := ov522.go (k525.weaken (fun _ h => absurd h List.not_mem_nil)) (fun _ h _ => h)
  replace hG := hG.grow k525
  replace hL := hL.grow k525
  refine wl_ok (r_assign (v := (.int .i64 (checkAll l))) rfl) ?_
  refine wl_nil ?_
  refine then_normal ?_
  refine wc_seq ?_
  refine wc_seq ?_
  refine wc_quiet mixed (by kernel_rfl) ?_
  refine wq_call (args := []) fnOk16 rfl rfl (fun wq hq => (Calls.mono (met_calls [] wq (fun x hx => absurd hx List.not_mem_nil) ) (fun e w2 h => ⟨h.1, hq.trans h.2⟩))) ?_
  refine wq_ok (fun wq hq => (r_not (b := true) rfl)) ?_
  refine wq_ok (fun wq hq => (r_move (v := (.bool false)) rfl)) ?_
  refine wq_on rfl rfl ?_
  refine wq_ok (fun wq hq => (r_loadBN (b := b519) (o := 0) (vs := [(.int .i64 (a)), (.int .i64 (b))]) Many34 rfl (Bb519.grow hq) rfl rfl)) ?_
  refine wq_on rfl rfl ?_
  refine wq_ok (fun wq hq => (r_move (v := (.int .i64 (c))) rfl)) ?_
  refine wq_on rfl rfl ?_
  refine wq_call (args := [(.agg #[(.int .i64 (a)), (.int .i64 (b))]), (.int .i64 (c))]) fnOk29 rfl rfl (fun wq hq => (Calls.mono (check_calls [] wq (fun x hx => absurd hx List.not_mem_nil) (a) (b) (c)) (fun e w2 h => ⟨h.1, hq.trans h.2⟩))) ?_
  refine wq_on rfl rfl ?_
  refine wq_ok (fun wq hq => (r_loadBN (b := b519) (o := 0) (vs := [(.int .i64 (a)), (.int .i64 (b))]) Many34 rfl (Bb519.grow hq) rfl rfl)) ?_
  refine wq_on rfl rfl ?_
  refine wq_ok (fun wq hq => (r_move (v := (.int .i64 (c))) rfl)) ?_
  refine wq_on rfl rfl ?_
  refine wq_call (args := [(.agg #[(.int .i64 (a)), (.int .i64 (b))]), (.int .i64 (c))]) fnOk30 rfl rfl (fun wq hq => (Calls.mono (refCheck_calls [] wq (fun x hx => absurd hx List.not_mem_nil) (a) (b) (c)) (fun e w2 h => ⟨h.1, hq.trans h.2⟩))) ?_
  refine wq_on rfl rfl ?_
  refine wq_ok (fun wq hq => (r_neq (p := cellCheck (a) (b) (c)) (q := cellCheck (a) (b) (c)) rfl rfl)) ?_
  refine wq_ok (fun wq hq => (r_pick (b := false) (v := (.bool (decide ((cellCheck (a) (b) (c) : Int) ≠ cellCheck (a) (b) (c))))) rfl rfl)) ?_
  refine wq_ok (fun wq hq => (r_move (v := (.bool (decide ((cellCheck (a) (b) (c) : Int) ≠ cellCheck (a) (b) (c))))) rfl)) ?_
  have a526 : ¬ ((cellCheck (a) (b) (c) : Int) ≠ cellCheck (a) (b) (c)) := (fun h => h rfl)
  have qa526 : Value.bool (decide ((cellCheck (a) (b) (c) : Int) ≠ cellCheck (a) (b) (c))) = Value.bool false := by rw [decide_eq_false a526]
  refine wq_on rfl qa526 ?_
  refine wq_ok (fun wq hq => (r_move (v := v) rfl)) ?_
  refine wq_on rfl qa526 ?_
  refine wq_call (args := [v]) fnOk31 rfl rfl (fun wq hq => (Calls.mono (checkAll_calls [] wq (fun x hx => absurd hx List.not_mem_nil) v l (hv.bare.grow hq)) (fun e w2 h => ⟨h.1, hq.trans h.2⟩))) ?_
  refine wq_on rfl qa526 ?_
  refine wq_ok (fun wq hq => (r_move (v := (.int .i64 (checkAll l))) rfl)) ?_
  refine wq_on rfl qa526 ?_
  refine wq_ok (fun wq hq => (r_neq (p := checkAll l) (q := checkAll l) rfl rfl)) ?_
  refine wq_ok (fun wq hq => (r_pick (b := false) (v := (.bool (decide ((checkAll l : Int) ≠ checkAll l)))) qa526 rfl)) ?_
  refine wq_ok (fun wq hq => (r_move (v := (.bool (decide ((checkAll l : Int) ≠ checkAll l)))) rfl)) ?_
  have a527 : ¬ ((checkAll l : Int) ≠ checkAll l) := (fun h => h rfl)
  have qa527 : Value.bool (decide ((checkAll l : Int) ≠ checkAll l)) = Value.bool false := by rw [decide_eq_false a527]
  refine wq_on rfl qa527 ?_
  refine wq_ok (fun wq hq => (r_move (v := v) rfl)) ?_
  refine wq_on rfl qa527 ?_
  refine wq_ok (fun wq hq => (r_move (v := v2) rfl)) ?_
  refine wq_on rfl qa527 ?_
  refine wq_call (args := [v, v2]) fnOk32 rfl rfl (fun wq hq => (Calls.mono (eqCells_calls [] wq (fun x hx => absurd hx List.not_mem_nil) v v2 l m (hv.bare.grow hq) (hm.bare.grow hq)) (fun e w2 h => ⟨h.1, hq.trans h.2⟩))) ?_
  refine wq_on rfl qa527 ?_
  refine wq_ok (fun wq hq => (r_move (v := v) rfl)) ?_
  refine wq_on rfl qa527 ?_
  refine wq_ok (fun wq hq => (r_move (v := v2) rfl)) ?_
  refine wq_on rfl qa527 ?_
  refine wq_call (args := [v, v2]) fnOk33 rfl rfl (fun wq hq => (Calls.mono (refSame_calls [] wq (fun x hx => absurd hx List.not_mem_nil) v v2 l m (hv.bare.grow hq) (hm.bare.grow hq)) (fun e w2 h => ⟨h.1, hq.trans h.2⟩))) ?_
  refine wq_on rfl qa527 ?_
  refine wq_ok (fun wq hq => (r_neqb (p := decide ((l : List (List Val)) = m)) (q := decide ((l : List (List Val)) = m)) Try.underlying4 rfl rfl)) ?_
  refine wq_ok (fun wq hq => (r_pick (b := false) (v := (.bool ((decide ((l : List (List Val)) = m)) != (decide ((l : List (List Val)) = m))))) qa527 rfl)) ?_
  refine wq_nil ?_
  intro w528 k529
  replace Bb519 := Bb519.grow k529
  replace hv := hv.go (k529.weaken (fun _ h => absurd h List.not_mem_nil)) (fun _ h _ => h)
  replace hu := hu.go (k529.weaken (fun _ h => absurd h List.not_mem_nil)) (fun _ h _ => h)
  replace hm := hm.go (k529.weaken (fun _ h => absurd h List.not_mem_nil)) (fun _ h _ => h)
  replace ov522 := ov522.go (k529.weaken (fun _ h => absurd h List.not_mem_nil)) (fun _ h _ => h)
  replace hG := hG.grow k529
  replace hL := hL.grow k529
  refine then_normal ?_
  have q530 : Value.bool ((decide ((l : List (List Val)) = m)) != (decide ((l : List (List Val)) = m))) = Value.bool false := by rw [show ((decide ((l : List (List Val)) = m)) != (decide ((l : List (List Val)) = m))) = false from bne_self_eq_false _]
  refine wc_iff q530 ?_
  refine wc_skip ?_
  refine then_normal ?_
  refine wc_seq ?_
  refine wc_seq ?_
  refine wc_region ?_
  refine wl_ok (r_move (v := (.int .i64 (checkAll l))) rfl) ?_
  refine wl_ok (r_eql (p := checkAll l) (q := 0) rfl rfl) ?_
  refine wl_ok (r_move (v := (.bool (decide ((checkAll l : Int) = 0)))) rfl) ?_
  refine (Decidable.em ((checkAll l : Int) = 0)).elim (fun h531 => ?_) (fun h531 => ?_)
  · skip
    have qh531 : Value.bool (decide ((checkAll l : Int) = 0)) = Value.bool true := by rw [decide_eq_true h531]
    refine wl_on rfl qh531 ?_
    refine wl_ok (r_move (v := u) rfl) ?_
    refine wl_on rfl qh531 ?_
    refine wl_ok (r_len_rd (v := u) SliceOf28 rfl hu) ?_
    refine wl_on rfl qh531 ?_
    refine wl_ok (r_gtr (p := (from_.length : Nat)) (q := 400) rfl rfl) ?_
    refine wl_ok (r_pick (b := true) (v := (.bool (decide ((400 : Int) < (from_.length : Nat))))) qh531 rfl) ?_
    refine wl_nil ?_
    refine then_normal ?_
    refine wc_ifd (p := (400 : Int) < (from_.length : Nat)) rfl (fun h532 => ?_) (fun h532 => ?_)
    · skip
      have qh532 : Value.bool (decide ((400 : Int) < (from_.length : Nat))) = Value.bool true := by rw [decide_eq_true h532]
      refine wc_region ?_
      refine wl_ok (r_assign (v := (.int .i64 (2))) rfl) ?_
      refine wl_nil ?_
      refine then_normal ?_
      refine wc_seq ?_
      refine wc_seq ?_
      refine wc_region ?_
      refine wl_ok (r_move (v := (.int .i64 (2))) rfl) ?_
      refine wl_ok (r_eql (p := 2) (q := 0) rfl rfl) ?_
      refine wl_nil ?_
      refine then_normal ?_
      have a533 : ¬ ((2 : Int) = 0) := (by decide)
      have qa533 : Value.bool (decide ((2 : Int) = 0)) = Value.bool false := by rw [decide_eq_false a533]
      refine wc_iff qa533 ?_
      refine wc_skip ?_
      refine then_normal ?_
      refine wc_seq ?_
      refine wc_seq ?_
      refine wc_region ?_
      refine wl_ok (r_move (v := (.int .i64 (2))) rfl) ?_
      refine wl_ok (r_neq (p := 2) (q := 0) rfl rfl) ?_
      refine wl_nil ?_
      refine then_normal ?_
      have a534 : (2 : Int) ≠ 0 := a533
      have qa534 : Value.bool (decide ((2 : Int) ≠ 0)) = Value.bool true := by rw [decide_eq_true a534]
      refine wc_ift qa534 ?_
      refine wc_seq ?_
      refine wc_region ?_
      refine wl_ok (r_move (v := (.int .i64 ((reach l from_).2))) rfl) ?_
      refine wl_ok (r_move (v := (.int .i64 (2))) rfl) ?_
      refine wl_ok (r_eql (p := (reach l from_).2) (q := 2) rfl rfl) ?_
      refine wl_ok (r_move (v := (.bool (decide (((reach l from_).2 : Int) = 2)))) rfl) ?_
      have a535 : ((reach l from_).2 : Int) = 2 := (by simp only [reach, eq_true h531, eq_true h532, if_true, if_false, ne_eq, not_true_eq_false, not_false_eq_true, eq_self])
      have qa535 : Value.bool (decide (((reach l from_).2 : Int) = 2)) = Value.bool true := by rw [decide_eq_true a535]
      refine wl_on rfl qa535 ?_
      refine wl_ok (r_move (v := v522) rfl) ?_
      refine wl_on rfl qa535 ?_
      refine wl_ok (r_len_rd (v := v522) SliceOf24 rfl ov522.rd) ?_
      refine wl_on rfl qa535 ?_
      refine wl_ok (r_eql (p := ((reach l from_).1.length : Nat)) (q := 0) rfl rfl) ?_
      refine wl_ok (r_pick (b := true) (v := (.bool (decide ((((reach l from_).1.length : Nat) : Int) = 0)))) qa535 rfl) ?_
      refine wl_ok (r_assign (v := (.bool (decide ((((reach l from_).1.length : Nat) : Int) = 0)))) rfl) ?_
      refine wl_nil ?_
      refine then_normal ?_
      refine wc_ret ?_
      refine then_ret ?_
      refine fin1 (v := (.bool (decide ((((reach l from_).1.length : Nat) : Int) = 0)))) Try.results7 rfl ?_
      have a536 : (((reach l from_).1.length : Nat) : Int) = 0 := (by rw [show (reach l from_).1 = [] from by simp only [reach, eq_true h531, eq_true h532, if_true, if_false, ne_eq, not_true_eq_false, not_false_eq_true, eq_self]]; rfl)
      have qa536 : Value.bool (decide ((((reach l from_).1.length : Nat) : Int) = 0)) = Value.bool true := by rw [decide_eq_true a536]
      exact ⟨congrArg Ending.returned qa536, hG⟩
    · skip
      have qh532 : Value.bool (decide ((400 : Int) < (from_.length : Nat))) = Value.bool false := by rw [decide_eq_false h532]
      refine wc_skip ?_
      refine then_normal ?_
      refine wc_seq ?_
      refine wc_seq ?_
      refine wc_region ?_
      refine wl_ok (r_move (v := (.int .i64 (checkAll l))) rfl) ?_
      refine wl_ok (r_eql (p := checkAll l) (q := 0) rfl rfl) ?_
      refine wl_nil ?_
      refine then_normal ?_
      refine wc_ift qh531 ?_
      refine wc_seq ?_
      refine wc_region ?_
      refine wl_ok (r_move (v := u) rfl) ?_
      refine wl_ok (r_len_rd (v := u) SliceOf28 rfl hu) ?_
      refine wl_ok (r_move (v := (.int .i64 (0))) rfl) ?_
      refine wl_nil ?_
      refine then_normal ?_
      refine wc_block ?_
      have s537 := ov522.rd
      refine wc_loop (inl [13, 15, 61, 62, 63, 64, 65, 66, 67, 68, 69, 70, 71]) (σ := Nat × Int) (fun (k, z) => [(61, (.int .i64 ((k : Nat)))), (13, (.int .i64 (z)))]) (fun (k, z) wr => Grow w wr ∧ LtM (b519 :: M) wr ∧ rSliceRd (rSlice rVal) wr (b519 :: M) v l ∧ rSliceRd rVal wr (b519 :: M) u from_ ∧ rSliceRd (rSlice rVal) wr (b519 :: M) v2 m ∧ rSliceRd rInt wr (b519 :: M) v522 (reach l from_).1 ∧ Blk wr b519 [(.int .i64 (a)), (.int .i64 (b))] ∧ k ≤ from_.length ∧ checkVals l.length (from_.drop k) = checkVals l.length from_ ∧ z = 0) (fun (k, z) => from_.length - k) ((0, checkAll l)) ⟨rfl, rfl, trivial⟩ ?_ ?_
      · exact ⟨hG, hL, hv, hu, hm, s537, Bb519, Nat.zero_le _, rfl, h531⟩
      · rintro ⟨k, z⟩ w538 j539 ⟨G540, L541, s542, s543, s544, s545, B546, lk, tk, tz⟩
        refine wc_seq ?_
        refine wc_region ?_
        refine wl_ok (r_lss (p := (k : Nat)) (q := (from_.length : Nat)) rfl rfl) ?_
        refine wl_nil ?_
        refine then_normal ?_
        refine wc_seq ?_
        refine wc_ifd (p := ((k : Nat) : Int) < (from_.length : Nat)) rfl (fun h547 => ?_) (fun h547 => ?_)
        · skip
          have qh547 : Value.bool (decide (((k : Nat) : Int) < (from_.length : Nat))) = Value.bool true := by rw [decide_eq_true h547]
          refine wc_skip ?_
          refine then_normal ?_
          refine wc_seq ?_
          refine wc_block ?_
          refine wc_seq ?_
          refine wc_region ?_
          refine wl_indexN (k := k) (v := u) SliceOf28 rfl rfl s543 rfl (by omega) ?_
          intro p548 cs549 xp548 gp548 hp548 rp548
          obtain ⟨rfl, ip548xkind, ip548xn⟩ := rVal_open rp548
          refine wl_ok (r_loadPN (p := p548) (cs := [(.int .i64 (xp548.kind)), (.int .i64 (xp548.n))]) Many34 rfl hp548 rfl) ?_
          refine wl_allocN Many34 ?_
          intro w550 b551 eb551 kb551 Bb551
          have lb551 : w.heap.size ≤ b551 := by have := G540.size; omega
          have nb551xb519 : b519 < b551 := by have := B546.lt; omega
          replace B546 := B546.grow kb551
          replace s542 := s542.go (kb551.weaken (fun _ h => absurd h List.not_mem_nil)) (mem_new eb551)
          replace s543 := s543.go (kb551.weaken (fun _ h => absurd h List.not_mem_nil)) (mem_new eb551)
          replace s544 := s544.go (kb551.weaken (fun _ h => absurd h List.not_mem_nil)) (mem_new eb551)
          replace s545 := s545.go (kb551.weaken (fun _ h => absurd h List.not_mem_nil)) (mem_new eb551)
          replace G540 := G540.grow kb551
          replace L541 := L541.grow kb551
          replace L541 := L541.cons Bb551.lt
          refine wl_storeN (b := b551) (o := 0) (vs := [(.int .i64 (xp548.kind)), (.int .i64 (xp548.n))]) Many34 rfl Bb551 rfl rfl (by simp) (by simp [Value.oneCell']) ?_
          intro w552 k553 B554
          replace B554 : Blk w552 b551 [(.int .i64 (xp548.kind)), (.int .i64 (xp548.n))] := B554
          replace B546 := B546.keep k553 (by simp; omega)
          replace s542 := s542.go (Keep.one k553 (by simp)) (fun _ h _ => h)
          replace s543 := s543.go (Keep.one k553 (by simp)) (fun _ h _ => h)
          replace s544 := s544.go (Keep.one k553 (by simp)) (fun _ h _ => h)
          replace s545 := s545.go (Keep.one k553 (by simp)) (fun _ h _ => h)
          replace G540 := G540.stepF k553 (by simp; omega)
          replace L541 := L541.grow k553
          refine wl_nil ?_
          refine then_normal ?_
          refine wc_seq ?_
          refine wc_region ?_
          refine wl_ok (r_loadBN (b := b551) (o := 0) (vs := [(.int .i64 (xp548.kind)), (.int .i64 (xp548.n))]) Many34 rfl B554 rfl rfl) ?_
          refine wl_ok (r_move (v := v) rfl) ?_
          refine wl_ok (r_len_rd (v := v) SliceOf27 rfl s542) ?_
          refine wl_call (args := [(.agg #[(.int .i64 (xp548.kind)), (.int .i64 (xp548.n))]), (.int .i64 ((l.length : Nat)))]) fnOk30 rfl rfl (refCheck_calls [] _ (fun x hx => absurd hx List.not_mem_nil) (xp548.kind) (xp548.n) ((l.length : Nat))) ?_
          rintro _ w555 ⟨rfl, k556⟩
          refine ⟨_, rfl, ?_⟩
          replace B546 := B546.grow k556
          replace B554 := B554.grow k556
          replace s542 := s542.go (k556.weaken (fun _ h => absurd h List.not_mem_nil)) (fun _ h _ => h)
          replace s543 := s543.go (k556.weaken (fun _ h => absurd h List.not_mem_nil)) (fun _ h _ => h)
          replace s544 := s544.go (k556.weaken (fun _ h => absurd h List.not_mem_nil)) (fun _ h _ => h)
          replace s545 := s545.go (k556.weaken (fun _ h => absurd h List.not_mem_nil)) (fun _ h _ => h)
          replace G540 := G540.grow k556
          replace L541 := L541.grow k556
          refine wl_ok (r_assign (v := (.int .i64 (cellCheck (xp548.kind) (xp548.n) ((l.length : Nat))))) rfl) ?_
          refine wl_nil ?_
          refine then_normal ?_
          refine wc_seq ?_
          refine wc_region ?_
          refine wl_ok (r_move (v := (.int .i64 (cellCheck (xp548.kind) (xp548.n) ((l.length : Nat))))) rfl) ?_
          refine wl_ok (r_neq (p := cellCheck (xp548.kind) (xp548.n) ((l.length : Nat))) (q := 0) rfl rfl) ?_
          refine wl_nil ?_
          refine then_normal ?_
          refine wc_ifd (p := (cellCheck (xp548.kind) (xp548.n) ((l.length : Nat)) : Int) ≠ 0) rfl (fun h557 => ?_) (fun h557 => ?_)
          · skip
            have qh557 : Value.bool (decide ((cellCheck (xp548.kind) (xp548.n) ((l.length : Nat)) : Int) ≠ 0)) = Value.bool true := by rw [decide_eq_true h557]
            refine wc_exit ?_
            refine inBlock_ne (by decide) ?_
            refine then_exit ?_
            refine then_exit ?_
            have t558 := tk
            rw [drop_some gp548] at t558
            simp only [checkVals, eq_true h531, eq_false h532, eq_true h547, eq_false h557, if_true, if_false, ne_eq, not_true_eq_false, not_false_eq_true, eq_self] at t558
            refine inBlock_eq ?_
            refine then_normal ?_
            refine wc_seq ?_
            refine wc_seq ?_
            refine wc_region ?_
            refine wl_ok (r_move (v := (.int .i64 (cellCheck (xp548.kind) (xp548.n) ((l.length : Nat))))) rfl) ?_
            refine wl_ok (r_neq (p := cellCheck (xp548.kind) (xp548.n) ((l.length : Nat))) (q := 0) rfl rfl) ?_
            refine wl_nil ?_
            refine then_normal ?_
            refine wc_ift qh557 ?_
            refine wc_seq ?_
            refine wc_region ?_
            refine wl_ok (r_move (v := (.int .i64 ((reach l from_).2))) rfl) ?_
            refine wl_ok (r_move (v := (.int .i64 (cellCheck (xp548.kind) (xp548.n) ((l.length : Nat))))) rfl) ?_
            refine wl_ok (r_eql (p := (reach l from_).2) (q := cellCheck (xp548.kind) (xp548.n) ((l.length : Nat))) rfl rfl) ?_
            refine wl_ok (r_move (v := (.bool (decide (((reach l from_).2 : Int) = cellCheck (xp548.kind) (xp548.n) ((l.length : Nat)))))) rfl) ?_
            have a559 : ((reach l from_).2 : Int) = cellCheck (xp548.kind) (xp548.n) ((l.length : Nat)) := (by simp only [reach, eq_true h531, eq_false h532, eq_true h547, eq_false h557, ← t558, if_true, if_false, ne_eq, not_true_eq_false, not_false_eq_true, eq_self])
            have qa559 : Value.bool (decide (((reach l from_).2 : Int) = cellCheck (xp548.kind) (xp548.n) ((l.length : Nat)))) = Value.bool true := by rw [decide_eq_true a559]
            refine wl_on rfl qa559 ?_
            refine wl_ok (r_move (v := v522) rfl) ?_
            refine wl_on rfl qa559 ?_
            refine wl_ok (r_len_rd (v := v522) SliceOf24 rfl s545) ?_
            refine wl_on rfl qa559 ?_
            refine wl_ok (r_eql (p := ((reach l from_).1.length : Nat)) (q := 0) rfl rfl) ?_
            refine wl_ok (r_pick (b := true) (v := (.bool (decide ((((reach l from_).1.length : Nat) : Int) = 0)))) qa559 rfl) ?_
            refine wl_ok (r_assign (v := (.bool (decide ((((reach l from_).1.length : Nat) : Int) = 0)))) rfl) ?_
            refine wl_nil ?_
            refine then_normal ?_
            refine wc_ret ?_
            refine then_ret ?_
            refine fin1 (v := (.bool (decide ((((reach l from_).1.length : Nat) : Int) = 0)))) Try.results7 rfl ?_
            have a560 : (((reach l from_).1.length : Nat) : Int) = 0 := (by rw [show (reach l from_).1 = [] from by simp only [reach, eq_true h531, eq_false h532, eq_true h547, eq_false h557, ← t558, if_true, if_false, ne_eq, not_true_eq_false, not_false_eq_true, eq_self]]; rfl)
            have qa560 : Value.bool (decide ((((reach l from_).1.length : Nat) : Int) = 0)) = Value.bool true := by rw [decide_eq_true a560]
            exact ⟨congrArg Ending.returned qa560, G540⟩
          · skip
            have qh557 : Value.bool (decide ((cellCheck (xp548.kind) (xp548.n) ((l.length : Nat)) : Int) ≠ 0)) = Value.bool false := by rw [decide_eq_false h557]
            replace h557 := Decidable.not_not.1 h557
            refine wc_skip ?_
            refine inBlock_normal ?_
            refine then_normal ?_
            refine wc_region ?_
            refine wl_ok (r_add (p := (k : Nat)) (q := 1) rfl rfl (by omega)) ?_
            refine wl_ok (r_move (v := (.int .i64 (((k : Nat) + 1)))) rfl) ?_
            refine wl_nil ?_
            refine then_loop ?_
            have t561 := tk
            rw [drop_some gp548] at t561
            simp only [checkVals, eq_true h531, eq_false h532, eq_true h547, eq_true h557, if_true, if_false, ne_eq, not_true_eq_false, not_false_eq_true, eq_self] at t561
            exact ⟨(k + 1, cellCheck (xp548.kind) (xp548.n) ((l.length : Nat))), _, rfl, (by repeat (first | (with_reducible exact Agr.hav _ _ _) | (with_reducible refine Agr.on ?_) | ((with_reducible refine Agr.hin ?_ ?_); rfl) | (with_reducible refine Agr.un ?_) | ((with_reducible refine Agr.os ?_ ?_); rfl) | ((with_reducible refine Agr.uc ?_ ?_); rfl))), ⟨rfl, rfl, trivial⟩, ⟨G540, (fun x hx => L541 x (List.mem_cons_of_mem _ hx)), (s542.go (Keep.refl _ _) (fun x hx _ => (List.mem_cons_of_mem _ hx))), (s543.go (Keep.refl _ _) (fun x hx _ => (List.mem_cons_of_mem _ hx))), (s544.go (Keep.refl _ _) (fun x hx _ => (List.mem_cons_of_mem _ hx))), (s545.go (Keep.refl _ _) (fun x hx _ => (List.mem_cons_of_mem _ hx))), B546, by omega, t561, h557⟩, (by dsimp only; omega)⟩
        · skip
          have qh547 : Value.bool (decide (((k : Nat) : Int) < (from_.length : Nat))) = Value.bool false := by rw [decide_eq_false h547]
          refine wc_exit ?_
          refine then_exit ?_
          refine then_exit ?_
          have t562 := tk
          rw [drop_done h547] at t562
          simp only [checkVals] at t562
          have hz0 : z = 0 := tz
          have a563 : (z : Int) = 0 := tz
          have qa563 : Value.bool (decide ((z : Int) = 0)) = Value.bool true := by rw [decide_eq_true a563]
          have hval0 := t562.symm
          refine inBlock_eq ?_
          refine then_normal ?_
          refine wc_seq ?_
          refine wc_seq ?_
          refine wc_region ?_
          refine wl_ok (r_move (v := (.int .i64 (z))) rfl) ?_
          refine wl_ok (r_neq (p := z) (q := 0) rfl rfl) ?_
          refine wl_nil ?_
          refine then_normal ?_
          have a564 : ¬ ((z : Int) ≠ 0) := (fun h9 => h9 a563)
          have qa564 : Value.bool (decide ((z : Int) ≠ 0)) = Value.bool false := by rw [decide_eq_false a564]
          refine wc_iff qa564 ?_
          refine wc_skip ?_
          refine then_normal ?_
          refine wc_seq ?_
          refine wc_region ?_
          refine wl_ok (r_move (v := (.int .i64 ((reach l from_).2))) rfl) ?_
          refine wl_ok (r_eql (p := (reach l from_).2) (q := 0) rfl rfl) ?_
          refine wl_ok (r_move (v := (.bool (decide (((reach l from_).2 : Int) = 0)))) rfl) ?_
          have a565 : ((reach l from_).2 : Int) = 0 := (by simp only [reach, eq_true h531, eq_false h532, eq_false h547, hz0, ← t562, if_true, if_false, ne_eq, not_true_eq_false, not_false_eq_true, eq_self])
          have qa565 : Value.bool (decide (((reach l from_).2 : Int) = 0)) = Value.bool true := by rw [decide_eq_true a565]
          refine wl_on rfl qa565 ?_
          refine wl_ok (r_move (v := v522) rfl) ?_
          refine wl_on rfl qa565 ?_
          refine wl_ok (r_move (v := v) rfl) ?_
          refine wl_on rfl qa565 ?_
          refine wl_ok (r_move (v := u) rfl) ?_
          refine wl_on rfl qa565 ?_
          refine wl_call (args := [v, u]) fnOk34 rfl rfl (met2_calls (b519 :: M) _ L541 v l u from_ s542 s543 h531 hval0) ?_
          rintro _ w566 ⟨v568, rfl, ov568, fv568, k567⟩
          refine ⟨_, rfl, ?_⟩
          have z569 : ∀ x ∈ ob v568, w.heap.size ≤ x := fun x hx => Nat.le_trans G540.size (fv568 x hx)
          replace B546 := B546.grow k567
          replace s542 := s542.go (k567.weaken (fun _ h => absurd h List.not_mem_nil)) (fun _ h _ => h)
          replace s543 := s543.go (k567.weaken (fun _ h => absurd h List.not_mem_nil)) (fun _ h _ => h)
          replace s544 := s544.go (k567.weaken (fun _ h => absurd h List.not_mem_nil)) (fun _ h _ => h)
          replace s545 := s545.go (k567.weaken (fun _ h => absurd h List.not_mem_nil)) (fun _ h _ => h)
          replace G540 := G540.grow k567
          replace L541 := L541.grow k567
          refine wl_on rfl qa565 ?_
          refine wl_call (args := [v522, v568]) fnOk14 rfl rfl (eqI_calls [] _ (fun x hx => absurd hx List.not_mem_nil) v522 v568 (reach l from_).1 (metL l from_) s545.bare ov568.rd.bare) ?_
          rintro _ w570 ⟨rfl, k571⟩
          refine ⟨_, rfl, ?_⟩
          replace B546 := B546.grow k571
          replace s542 := s542.go (k571.weaken (fun _ h => absurd h List.not_mem_nil)) (fun _ h _ => h)
          replace s543 := s543.go (k571.weaken (fun _ h => absurd h List.not_mem_nil)) (fun _ h _ => h)
          replace s544 := s544.go (k571.weaken (fun _ h => absurd h List.not_mem_nil)) (fun _ h _ => h)
          replace s545 := s545.go (k571.weaken (fun _ h => absurd h List.not_mem_nil)) (fun _ h _ => h)
          replace ov568 := ov568.go (k571.weaken (fun _ h => absurd h List.not_mem_nil)) (fun _ h _ => h)
          replace G540 := G540.grow k571
          replace L541 := L541.grow k571
          refine wl_ok (r_pick (b := true) (v := (.bool (decide (((reach l from_).1 : List Int) = (metL l from_))))) qa565 rfl) ?_
          refine wl_ok (r_assign (v := (.bool (decide (((reach l from_).1 : List Int) = (metL l from_))))) rfl) ?_
          refine wl_nil ?_
          refine then_normal ?_
          refine wc_ret ?_
          refine fin1 (v := (.bool (decide (((reach l from_).1 : List Int) = (metL l from_))))) Try.results7 rfl ?_
          have a572 : ((reach l from_).1 : List Int) = (metL l from_) := (reach_ok (by simp only [reach, eq_true h531, eq_false h532, eq_false h547, hz0, ← t562, if_true, if_false, ne_eq, not_true_eq_false, not_false_eq_true, eq_self])).2.2.2
          have qa572 : Value.bool (decide (((reach l from_).1 : List Int) = (metL l from_))) = Value.bool true := by rw [decide_eq_true a572]
          exact ⟨congrArg Ending.returned qa572, G540⟩
  · skip
    have qh531 : Value.bool (decide ((checkAll l : Int) = 0)) = Value.bool false := by rw [decide_eq_false h531]
    refine wl_off (b' := false) rfl qh531 rfl ?_
    refine wl_off (b' := false) rfl qh531 rfl ?_
    refine wl_off (b' := false) rfl qh531 rfl ?_
    refine wl_ok (r_pick (b := false) (v := (.bool false)) qh531 rfl) ?_
    refine wl_nil ?_
    refine then_normal ?_
    refine wc_iff rfl ?_
    refine wc_skip ?_
    refine then_normal ?_
    refine wc_seq ?_
    refine wc_seq ?_
    refine wc_region ?_
    refine wl_ok (r_move (v := (.int .i64 (checkAll l))) rfl) ?_
    refine wl_ok (r_eql (p := checkAll l) (q := 0) rfl rfl) ?_
    refine wl_nil ?_
    refine then_normal ?_
    refine wc_iff qh531 ?_
    refine wc_skip ?_
    refine then_normal ?_
    refine wc_seq ?_
    refine wc_seq ?_
    refine wc_region ?_
    refine wl_ok (r_move (v := (.int .i64 (checkAll l))) rfl) ?_
    refine wl_ok (r_neq (p := checkAll l) (q := 0) rfl rfl) ?_
    refine wl_nil ?_
    refine then_normal ?_
    have a573 : (checkAll l : Int) ≠ 0 := h531
    have qa573 : Value.bool (decide ((checkAll l : Int) ≠ 0)) = Value.bool true := by rw [decide_eq_true a573]
    refine wc_ift qa573 ?_
    refine wc_seq ?_
    refine wc_region ?_
    refine wl_ok (r_move (v := (.int .i64 ((reach l from_).2))) rfl) ?_
    refine wl_ok (r_move (v := (.int .i64 (checkAll l))) rfl) ?_
    refine wl_ok (r_eql (p := (reach l from_).2) (q := checkAll l) rfl rfl) ?_
    refine wl_ok (r_move (v := (.bool (decide (((reach l from_).2 : Int) = checkAll l)))) rfl) ?_
    have a574 : ((reach l from_).2 : Int) = checkAll l := (by simp only [reach, eq_false h531, if_true, if_false, ne_eq, not_true_eq_false, not_false_eq_true, eq_self])
    have qa574 : Value.bool (decide (((reach l from_).2 : Int) = checkAll l)) = Value.bool true := by rw [decide_eq_true a574]
    refine wl_on rfl qa574 ?_
    refine wl_ok (r_move (v := v522) rfl) ?_
    refine wl_on rfl qa574 ?_
    refine wl_ok (r_len_rd (v := v522) SliceOf24 rfl ov522.rd) ?_
    refine wl_on rfl qa574 ?_
    refine wl_ok (r_eql (p := ((reach l from_).1.length : Nat)) (q := 0) rfl rfl) ?_
    refine wl_ok (r_pick (b := true) (v := (.bool (decide ((((reach l from_).1.length : Nat) : Int) = 0)))) qa574 rfl) ?_
    refine wl_ok (r_assign (v := (.bool (decide ((((reach l from_).1.length : Nat) : Int) = 0)))) rfl) ?_
    refine wl_nil ?_
    refine then_normal ?_
    refine wc_ret ?_
    refine then_ret ?_
    refine fin1 (v := (.bool (decide ((((reach l from_).1.length : Nat) : Int) = 0)))) Try.results7 rfl ?_
    have a575 : (((reach l from_).1.length : Nat) : Int) = 0 := (by rw [show (reach l from_).1 = [] from by simp only [reach, eq_false h531, if_true, if_false, ne_eq, not_true_eq_false, not_false_eq_true, eq_self]]; rfl)
    have qa575 : Value.bool (decide ((((reach l from_).1.length : Nat) : Int) = 0)) = Value.bool true := by rw [decide_eq_true a575]
    exact ⟨congrArg Ending.returned qa575, hG⟩

end Go.Proofs.Ytkjajililnbimaa
