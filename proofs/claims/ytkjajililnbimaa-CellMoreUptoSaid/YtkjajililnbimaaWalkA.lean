import Derived.Test.YtkjajililnbimaaProg
import Derived.Test.YtkjajililnbimaaLib

set_option linter.unusedSimpArgs false
set_option linter.unusedVariables false
namespace Go.Proofs.Ytkjajililnbimaa
open Go Go.Proofs Go.WX
theorem ElemOf23 : ElemOf Try.prog 23 22 1 8 := ⟨Try.underlying23, elem_of (z := (.int .i64 (0))) (by kernel_rfl) rfl⟩
theorem ElemOf24 : ElemOf Try.prog 24 3 1 8 := ⟨Try.underlying24, elem_of (z := (.int .i64 (0))) (by kernel_rfl) rfl⟩
theorem fnOk14 : FnOk Try.prog 14 := ⟨_, Try.func14, by kernel_rfl, rfl⟩
theorem One22 : One Try.prog 22 (.int .i64 (0)) := ⟨⟨_, Try.underlying22, trivial⟩, by kernel_rfl, rfl⟩
theorem One3 : One Try.prog 3 (.int .i64 (0)) := ⟨⟨_, Try.underlying3, trivial⟩, by kernel_rfl, rfl⟩
theorem SliceOf23 : SliceOf Try.prog 23 22 1 := ⟨Try.underlying23, by kernel_rfl⟩
theorem SliceOf24 : SliceOf Try.prog 24 3 1 := ⟨Try.underlying24, by kernel_rfl⟩
theorem mixed : Try.prog.follows .mixedOrders = true := by kernel_rfl

def allEq : List Int → List Int → Bool
  | [], _ => true
  | _ :: _, [] => true
  | a :: r, b :: s => if a ≠ b then false else allEq r s
def eqInts (x y : List Int) : Bool := if (x.length : Int) ≠ y.length then false else allEq x y
theorem ret_bool {a b : Bool} (h : a = b) : Ending.returned (.bool a) = .returned (.bool b) := by rw [h]
theorem names_at {k : Nat} {x : Int} (h : ([0, 1, 2, 3, 4, 5, 6, 7, 8] : List Int)[k]? = some x) : x = k := by
  have hk : k < 9 := by
    rcases Nat.lt_or_ge k 9 with h1 | h1
    · exact h1
    · rw [List.getElem?_eq_none (by simpa using h1)] at h; cases h
  have : k = 0 ∨ k = 1 ∨ k = 2 ∨ k = 3 ∨ k = 4 ∨ k = 5 ∨ k = 6 ∨ k = 7 ∨ k = 8 := by omega
  rcases this with rfl | rfl | rfl | rfl | rfl | rfl | rfl | rfl | rfl <;> simp at h <;> omega
theorem equal_calls (M : List Nat) (w : World) (hL : LtM M w) (a b : Value) (x y : List Int) (ha : rSliceRd rInt w M a x) (hb : rSliceRd rInt w M b y) : Calls Try.prog 14 #[a, b] w
    (fun e w' => e = .returned (.bool (eqInts x y)) ∧ Grow w w') := by
  refine calls_start (args := [a, b]) Try.func14 rfl Try.ntmps14 (Nat.le_of_ble_eq_true rfl) ?_
  have hG : Grow w w := Keep.refl _ _
  have hl := ha.len_le
  refine wc_seq ?_
  refine wc_region ?_
  refine wl_ok (r_assign (v := (.bool false)) rfl) ?_
  refine wl_nil ?_
  refine then_normal ?_
  refine wc_seq ?_
  refine wc_seq ?_
  refine wc_region ?_
  refine wl_ok (r_move (v := a) rfl) ?_
  refine wl_ok (r_len_rd (v := a) SliceOf24 rfl ha) ?_
  refine wl_ok (r_move (v := b) rfl) ?_
  refine wl_ok (r_len_rd (v := b) SliceOf24 rfl hb) ?_
  refine wl_ok (r_neq (p := (x.length : Nat)) (q := (y.length : Nat)) rfl rfl) ?_
  refine wl_nil ?_
  refine then_normal ?_
  refine wc_ifd (p := ((x.length : Nat) : Int) ≠ (y.length : Nat)) rfl (fun h1 => ?_) (fun h1 => ?_)
  · skip
    have qh1 : Value.bool (decide (((x.length : Nat) : Int) ≠ (y.length : Nat))) = Value.bool true := by rw [decide_eq_true h1]
    refine wc_seq ?_
    refine wc_region ?_
    refine wl_ok (r_assign (v := (.bool false)) rfl) ?_
    refine wl_nil ?_
    refine then_normal ?_
    refine wc_ret ?_
    refine then_ret ?_
    refine fin1 (v := (.bool false)) Try.results14 rfl ?_
    exact ⟨ret_bool (by simp only [eqInts, eq_false h1, if_true, if_false, ne_eq, not_true_eq_false, not_false_eq_true, eq_self]), hG⟩
  · skip
    have qh1 : Value.bool (decide (((x.length : Nat) : Int) ≠ (y.length : Nat))) = Value.bool false := by rw [decide_eq_false h1]
    replace h1 := Decidable.not_not.1 h1
    refine wc_skip ?_
    refine then_normal ?_
    refine wc_seq ?_
    refine wc_seq ?_
    refine wc_region ?_
    refine wl_ok (r_move (v := a) rfl) ?_
    refine wl_ok (r_len_rd (v := a) SliceOf24 rfl ha) ?_
    refine wl_ok (r_move (v := (.int .i64 (0))) rfl) ?_
    refine wl_nil ?_
    refine then_normal ?_
    refine wc_block ?_
    refine wc_loop (inl [4, 5, 13, 14, 15, 16, 17, 18, 19, 20, 21, 22, 23, 24, 25]) (σ := Nat) (fun k => [(13, (.int .i64 ((k : Nat))))]) (fun k wr => Grow w wr ∧ LtM M wr ∧ rSliceRd rInt wr M a x ∧ rSliceRd rInt wr M b y ∧ k ≤ x.length ∧ allEq (x.drop k) (y.drop k) = allEq x y) (fun k => x.length - k) (0) ⟨rfl, trivial⟩ ?_ ?_
    · exact ⟨hG, hL, ha, hb, Nat.zero_le _, rfl⟩
    · rintro k w2 j3 ⟨G4, L5, s6, s7, lk, tk⟩
      refine wc_seq ?_
      refine wc_region ?_
      refine wl_ok (r_lss (p := (k : Nat)) (q := (x.length : Nat)) rfl rfl) ?_
      refine wl_nil ?_
      refine then_normal ?_
      refine wc_seq ?_
      refine wc_ifd (p := ((k : Nat) : Int) < (x.length : Nat)) rfl (fun h8 => ?_) (fun h8 => ?_)
      · skip
        have qh8 : Value.bool (decide (((k : Nat) : Int) < (x.length : Nat))) = Value.bool true := by rw [decide_eq_true h8]
        refine wc_skip ?_
        refine then_normal ?_
        refine wc_seq ?_
        refine wc_block ?_
        refine wc_seq ?_
        refine wc_region ?_
        refine wl_ok (r_move (v := (.int .i64 ((k : Nat)))) rfl) ?_
        refine wl_ok (r_assign (v := (.int .i64 ((k : Nat)))) rfl) ?_
        refine wl_nil ?_
        refine then_normal ?_
        refine wc_seq ?_
        refine wc_quiet mixed (by kernel_rfl) ?_
        refine wq_ok (fun wq hq => (r_move (v := a) rfl)) ?_
        refine wq_ok (fun wq hq => (r_move (v := (.int .i64 ((k : Nat)))) rfl)) ?_
        refine wq_indexN (k := k) (v := a) SliceOf24 rfl rfl s6 rfl (by omega) ?_
        intro p9 cs10 xp9 gp9 hp9 rp9
        obtain ⟨rfl, ip9⟩ := rp9
        refine wq_ok (fun wq hq => (r_loadP1 (p := p9) (v := (.int .i64 (xp9))) One3 rfl (hp9.grow hq))) ?_
        refine wq_ok (fun wq hq => (r_move (v := b) rfl)) ?_
        refine wq_ok (fun wq hq => (r_move (v := (.int .i64 ((k : Nat)))) rfl)) ?_
        refine wq_indexN (k := k) (v := b) SliceOf24 rfl rfl s7 rfl (by omega) ?_
        intro p11 cs12 xp11 gp11 hp11 rp11
        obtain ⟨rfl, ip11⟩ := rp11
        refine wq_ok (fun wq hq => (r_loadP1 (p := p11) (v := (.int .i64 (xp11))) One3 rfl (hp11.grow hq))) ?_
        refine wq_ok (fun wq hq => (r_neq (p := xp9) (q := xp11) rfl rfl)) ?_
        refine wq_nil ?_
        intro w13 k14
        replace s6 := s6.go (k14.weaken (fun _ h => absurd h List.not_mem_nil)) (fun _ h _ => h)
        replace s7 := s7.go (k14.weaken (fun _ h => absurd h List.not_mem_nil)) (fun _ h _ => h)
        replace G4 := G4.grow k14
        replace L5 := L5.grow k14
        refine then_normal ?_
        refine wc_ifd (p := (xp9 : Int) ≠ xp11) rfl (fun h15 => ?_) (fun h15 => ?_)
        · skip
          have qh15 : Value.bool (decide ((xp9 : Int) ≠ xp11)) = Value.bool true := by rw [decide_eq_true h15]
          refine wc_seq ?_
          refine wc_region ?_
          refine wl_ok (r_assign (v := (.bool false)) rfl) ?_
          refine wl_nil ?_
          refine then_normal ?_
          refine wc_ret ?_
          refine inBlock_ret ?_
          refine then_ret ?_
          refine then_ret ?_
          refine inBlock_ret ?_
          refine then_ret ?_
          refine fin1 (v := (.bool false)) Try.results14 rfl ?_
          have t16 := tk
          rw [drop_some gp9, drop_some gp11] at t16
          simp only [allEq, eq_true h1, eq_true h8, eq_false h15, if_true, if_false, ne_eq, not_true_eq_false, not_false_eq_true, eq_self] at t16
          exact ⟨ret_bool (by simp only [eqInts, eq_true h1, eq_true h8, eq_false h15, ← t16, if_true, if_false, ne_eq, not_true_eq_false, not_false_eq_true, eq_self]), G4⟩
        · skip
          have qh15 : Value.bool (decide ((xp9 : Int) ≠ xp11)) = Value.bool false := by rw [decide_eq_false h15]
          replace h15 := Decidable.not_not.1 h15
          refine wc_skip ?_
          refine inBlock_normal ?_
          refine then_normal ?_
          refine wc_region ?_
          refine wl_ok (r_add (p := (k : Nat)) (q := 1) rfl rfl (by omega)) ?_
          refine wl_ok (r_move (v := (.int .i64 (((k : Nat) + 1)))) rfl) ?_
          refine wl_nil ?_
          refine then_loop ?_
          have t17 := tk
          rw [drop_some gp9, drop_some gp11] at t17
          simp only [allEq, eq_true h1, eq_true h8, eq_true h15, if_true, if_false, ne_eq, not_true_eq_false, not_false_eq_true, eq_self] at t17
          exact ⟨k + 1, _, rfl, (by repeat (first | (with_reducible exact Agr.hav _ _ _) | (with_reducible refine Agr.on ?_) | ((with_reducible refine Agr.hin ?_ ?_); rfl) | (with_reducible refine Agr.un ?_) | ((with_reducible refine Agr.os ?_ ?_); rfl) | ((with_reducible refine Agr.uc ?_ ?_); rfl))), ⟨rfl, trivial⟩, ⟨G4, L5, s6, s7, by omega, t17⟩, (by omega)⟩
      · skip
        have qh8 : Value.bool (decide (((k : Nat) : Int) < (x.length : Nat))) = Value.bool false := by rw [decide_eq_false h8]
        refine wc_exit ?_
        refine then_exit ?_
        refine then_exit ?_
        have t18 := tk
        rw [drop_done h8] at t18
        simp only [allEq] at t18
        refine inBlock_eq ?_
        refine then_normal ?_
        refine wc_seq ?_
        refine wc_region ?_
        refine wl_ok (r_assign (v := (.bool true)) rfl) ?_
        refine wl_nil ?_
        refine then_normal ?_
        refine wc_ret ?_
        refine fin1 (v := (.bool true)) Try.results14 rfl ?_
        exact ⟨ret_bool (by simp only [eqInts, eq_true h1, eq_false h8, ← t18, if_true, if_false, ne_eq, not_true_eq_false, not_false_eq_true, eq_self]), G4⟩

theorem names_calls (M : List Nat) (w : World) (hL : LtM M w)  : Calls Try.prog 3 #[] w
    (fun e w' => e = .returned (.bool true) ∧ Grow w w') := by
  refine calls_start (args := []) Try.func3 rfl Try.ntmps3 (Nat.le_of_ble_eq_true rfl) ?_
  have hG : Grow w w := Keep.refl _ _
  refine wc_seq ?_
  refine wc_region ?_
  refine wl_ok (r_assign (v := (.bool false)) rfl) ?_
  refine wl_nil ?_
  refine then_normal ?_
  refine wc_seq ?_
  refine wc_region ?_
  refine wl_buildSlice (R := rInt) (M := M) (vs := [(.int .i64 (0)), (.int .i64 (1)), (.int .i64 (2)), (.int .i64 (3)), (.int .i64 (4)), (.int .i64 (5)), (.int .i64 (6)), (.int .i64 (7)), (.int .i64 (8))]) (xs := [0, 1, 2, 3, 4, 5, 6, 7, 8]) ElemOf23 rfl rfl rfl ⟨⟨rfl, (by omega)⟩, ⟨rfl, (by omega)⟩, ⟨rfl, (by omega)⟩, ⟨rfl, (by omega)⟩, ⟨rfl, (by omega)⟩, ⟨rfl, (by omega)⟩, ⟨rfl, (by omega)⟩, ⟨rfl, (by omega)⟩, ⟨rfl, (by omega)⟩, trivial⟩ hL (by decide) ?_
  intro w19 v20 k21 ov20 uv20
  have z22 : ∀ x ∈ ob v20, w.heap.size ≤ x := fresh_new hG.size rfl uv20
  replace hG := hG.grow k21
  replace hL := hL.grow k21
  refine wl_ok (r_assign (v := v20) rfl) ?_
  refine wl_nil ?_
  refine then_normal ?_
  refine wc_seq ?_
  refine wc_seq ?_
  refine wc_region ?_
  refine wl_ok (r_move (v := v20) rfl) ?_
  refine wl_ok (r_len_rd (v := v20) SliceOf23 rfl ov20.rd) ?_
  refine wl_ok (r_move (v := (.int .i64 (0))) rfl) ?_
  refine wl_nil ?_
  refine then_normal ?_
  refine wc_block ?_
  have s23 := ov20.rd
  refine wc_loop (inl [0, 2, 3, 10, 11, 12, 13, 14, 15, 16, 17, 18]) (σ := Nat) (fun k => [(10, (.int .i64 ((k : Nat))))]) (fun k wr => Grow w wr ∧ LtM M wr ∧ rSliceRd rInt wr M v20 ([0, 1, 2, 3, 4, 5, 6, 7, 8] : List (Int)) ∧ k ≤ 9) (fun k => 9 - k) (0) ⟨rfl, trivial⟩ ?_ ?_
  · exact ⟨hG, hL, s23, Nat.zero_le _⟩
  · rintro k w24 j25 ⟨G26, L27, s28, lk⟩
    refine wc_seq ?_
    refine wc_region ?_
    refine wl_ok (r_lss (p := (k : Nat)) (q := (([0, 1, 2, 3, 4, 5, 6, 7, 8] : List (Int)).length : Nat)) rfl rfl) ?_
    refine wl_nil ?_
    refine then_normal ?_
    refine wc_seq ?_
    refine wc_ifd (p := ((k : Nat) : Int) < (([0, 1, 2, 3, 4, 5, 6, 7, 8] : List (Int)).length : Nat)) rfl (fun h29 => ?_) (fun h29 => ?_)
    · skip
      have qh29 : Value.bool (decide (((k : Nat) : Int) < (([0, 1, 2, 3, 4, 5, 6, 7, 8] : List (Int)).length : Nat))) = Value.bool true := by rw [decide_eq_true h29]
      refine wc_skip ?_
      refine then_normal ?_
      refine wc_seq ?_
      refine wc_block ?_
      refine wc_seq ?_
      refine wc_region ?_
      refine wl_ok (r_move (v := (.int .i64 ((k : Nat)))) rfl) ?_
      refine wl_indexN (k := k) (v := v20) SliceOf23 rfl rfl s28 rfl (by omega) ?_
      intro p30 cs31 xp30 gp30 hp30 rp30
      obtain ⟨rfl, ip30⟩ := rp30
      have hxxp30 := names_at gp30
      refine wl_ok (r_loadP1 (p := p30) (v := (.int .i64 (xp30))) One22 rfl hp30) ?_
      refine wl_ok (r_assign (v := (.int .i64 ((k : Nat)))) rfl) ?_
      refine wl_ok (r_assign (v := (.int .i64 (xp30))) rfl) ?_
      refine wl_nil ?_
      refine then_normal ?_
      refine wc_seq ?_
      refine wc_region ?_
      refine wl_ok (r_move (v := (.int .i64 (xp30))) rfl) ?_
      refine wl_ok (r_move (v := (.int .i64 ((k : Nat)))) rfl) ?_
      refine wl_ok (r_neq (p := xp30) (q := (k : Nat)) rfl rfl) ?_
      refine wl_nil ?_
      refine then_normal ?_
      refine wc_ifd (p := (xp30 : Int) ≠ (k : Nat)) rfl (fun h32 => ?_) (fun h32 => ?_)
      · skip
        have qh32 : Value.bool (decide ((xp30 : Int) ≠ (k : Nat))) = Value.bool true := by rw [decide_eq_true h32]
        refine wc_seq ?_
        refine wc_region ?_
        refine wl_ok (r_assign (v := (.bool false)) rfl) ?_
        refine wl_nil ?_
        refine then_normal ?_
        refine wc_ret ?_
        refine inBlock_ret ?_
        refine then_ret ?_
        refine then_ret ?_
        refine inBlock_ret ?_
        refine then_ret ?_
        refine fin1 (v := (.bool false)) Try.results3 rfl ?_
        exact absurd hxxp30 h32
      · skip
        have qh32 : Value.bool (decide ((xp30 : Int) ≠ (k : Nat))) = Value.bool false := by rw [decide_eq_false h32]
        replace h32 := Decidable.not_not.1 h32
        refine wc_skip ?_
        refine inBlock_normal ?_
        refine then_normal ?_
        refine wc_region ?_
        refine wl_ok (r_add (p := (k : Nat)) (q := 1) rfl rfl (by omega)) ?_
        refine wl_ok (r_move (v := (.int .i64 (((k : Nat) + 1)))) rfl) ?_
        refine wl_nil ?_
        refine then_loop ?_
        exact ⟨k + 1, _, rfl, (by repeat (first | (with_reducible exact Agr.hav _ _ _) | (with_reducible refine Agr.on ?_) | ((with_reducible refine Agr.hin ?_ ?_); rfl) | (with_reducible refine Agr.un ?_) | ((with_reducible refine Agr.os ?_ ?_); rfl) | ((with_reducible refine Agr.uc ?_ ?_); rfl))), ⟨rfl, trivial⟩, ⟨G26, L27, s28, (by have h := h29; simp only [List.length_cons, List.length_nil] at h; omega)⟩, (by have h := h29; simp only [List.length_cons, List.length_nil] at h; omega)⟩
    · skip
      have qh29 : Value.bool (decide (((k : Nat) : Int) < (([0, 1, 2, 3, 4, 5, 6, 7, 8] : List (Int)).length : Nat))) = Value.bool false := by rw [decide_eq_false h29]
      refine wc_exit ?_
      refine then_exit ?_
      refine then_exit ?_
      refine inBlock_eq ?_
      refine then_normal ?_
      refine wc_seq ?_
      refine wc_region ?_
      refine wl_buildSlice (R := rInt) (M := M) (vs := [(.int .i64 (1000000000)), (.int .i64 (24)), (.int .i64 (4)), (.int .i64 (3)), (.int .i64 (6)), (.int .i64 (30)), (.int .i64 (4)), (.int .i64 (40)), (.int .i64 (2000)), (.int .i64 (4)), (.int .i64 (24)), (.int .i64 (10)), (.int .i64 (1200)), (.int .i64 (40)), (.int .i64 (2000)), (.int .i64 (60000)), (.int .i64 (3)), (.int .i64 (3)), (.int .i64 (100)), (.int .i64 (120)), (.int .i64 (40)), (.int .i64 (120))]) (xs := [1000000000, 24, 4, 3, 6, 30, 4, 40, 2000, 4, 24, 10, 1200, 40, 2000, 60000, 3, 3, 100, 120, 40, 120]) ElemOf24 rfl rfl rfl ⟨⟨rfl, (by omega)⟩, ⟨rfl, (by omega)⟩, ⟨rfl, (by omega)⟩, ⟨rfl, (by omega)⟩, ⟨rfl, (by omega)⟩, ⟨rfl, (by omega)⟩, ⟨rfl, (by omega)⟩, ⟨rfl, (by omega)⟩, ⟨rfl, (by omega)⟩, ⟨rfl, (by omega)⟩, ⟨rfl, (by omega)⟩, ⟨rfl, (by omega)⟩, ⟨rfl, (by omega)⟩, ⟨rfl, (by omega)⟩, ⟨rfl, (by omega)⟩, ⟨rfl, (by omega)⟩, ⟨rfl, (by omega)⟩, ⟨rfl, (by omega)⟩, ⟨rfl, (by omega)⟩, ⟨rfl, (by omega)⟩, ⟨rfl, (by omega)⟩, ⟨rfl, (by omega)⟩, trivial⟩ L27 (by decide) ?_
      intro w33 v34 k35 ov34 uv34
      have z36 : ∀ x ∈ ob v34, w.heap.size ≤ x := fresh_new G26.size rfl uv34
      replace s28 := s28.go (k35.weaken (fun _ h => absurd h List.not_mem_nil)) (fun _ h _ => h)
      replace G26 := G26.grow k35
      replace L27 := L27.grow k35
      refine wl_ok (r_assign (v := v34) rfl) ?_
      refine wl_nil ?_
      refine then_normal ?_
      refine wc_seq ?_
      refine wc_region ?_
      refine wl_buildSlice (R := rInt) (M := M) (vs := [(.int .i64 (1)), (.int .i64 (2)), (.int .i64 (3)), (.int .i64 (4)), (.int .i64 (5)), (.int .i64 (6)), (.int .i64 (1)), (.int .i64 (2)), (.int .i64 (3)), (.int .i64 (4)), (.int .i64 (5)), (.int .i64 (1)), (.int .i64 (2)), (.int .i64 (3)), (.int .i64 (4)), (.int .i64 (5)), (.int .i64 (6)), (.int .i64 (7)), (.int .i64 (8)), (.int .i64 (0)), (.int .i64 (1)), (.int .i64 (2)), (.int .i64 (0)), (.int .i64 (1)), (.int .i64 (2)), (.int .i64 (3))]) (xs := [1, 2, 3, 4, 5, 6, 1, 2, 3, 4, 5, 1, 2, 3, 4, 5, 6, 7, 8, 0, 1, 2, 0, 1, 2, 3]) ElemOf24 rfl rfl rfl ⟨⟨rfl, (by omega)⟩, ⟨rfl, (by omega)⟩, ⟨rfl, (by omega)⟩, ⟨rfl, (by omega)⟩, ⟨rfl, (by omega)⟩, ⟨rfl, (by omega)⟩, ⟨rfl, (by omega)⟩, ⟨rfl, (by omega)⟩, ⟨rfl, (by omega)⟩, ⟨rfl, (by omega)⟩, ⟨rfl, (by omega)⟩, ⟨rfl, (by omega)⟩, ⟨rfl, (by omega)⟩, ⟨rfl, (by omega)⟩, ⟨rfl, (by omega)⟩, ⟨rfl, (by omega)⟩, ⟨rfl, (by omega)⟩, ⟨rfl, (by omega)⟩, ⟨rfl, (by omega)⟩, ⟨rfl, (by omega)⟩, ⟨rfl, (by omega)⟩, ⟨rfl, (by omega)⟩, ⟨rfl, (by omega)⟩, ⟨rfl, (by omega)⟩, ⟨rfl, (by omega)⟩, ⟨rfl, (by omega)⟩, trivial⟩ L27 (by decide) ?_
      intro w37 v38 k39 ov38 uv38
      have z40 : ∀ x ∈ ob v38, w.heap.size ≤ x := fresh_new G26.size rfl uv38
      replace s28 := s28.go (k39.weaken (fun _ h => absurd h List.not_mem_nil)) (fun _ h _ => h)
      replace ov34 := ov34.go (k39.weaken (fun _ h => absurd h List.not_mem_nil)) (fun _ h _ => h)
      replace G26 := G26.grow k39
      replace L27 := L27.grow k39
      refine wl_ok (r_assign (v := v38) rfl) ?_
      refine wl_nil ?_
      refine then_normal ?_
      refine wc_seq ?_
      refine wc_region ?_
      refine wl_buildSlice (R := rInt) (M := M) (vs := [(.int .i64 (1)), (.int .i64 (2)), (.int .i64 (3)), (.int .i64 (4)), (.int .i64 (5)), (.int .i64 (6)), (.int .i64 (7)), (.int .i64 (8)), (.int .i64 (9)), (.int .i64 (10)), (.int .i64 (11)), (.int .i64 (12)), (.int .i64 (13)), (.int .i64 (1)), (.int .i64 (2)), (.int .i64 (3)), (.int .i64 (4)), (.int .i64 (5)), (.int .i64 (1)), (.int .i64 (2)), (.int .i64 (3)), (.int .i64 (4)), (.int .i64 (5)), (.int .i64 (6)), (.int .i64 (7)), (.int .i64 (8)), (.int .i64 (9))]) (xs := [1, 2, 3, 4, 5, 6, 7, 8, 9, 10, 11, 12, 13, 1, 2, 3, 4, 5, 1, 2, 3, 4, 5, 6, 7, 8, 9]) ElemOf24 rfl rfl rfl ⟨⟨rfl, (by omega)⟩, ⟨rfl, (by omega)⟩, ⟨rfl, (by omega)⟩, ⟨rfl, (by omega)⟩, ⟨rfl, (by omega)⟩, ⟨rfl, (by omega)⟩, ⟨rfl, (by omega)⟩, ⟨rfl, (by omega)⟩, ⟨rfl, (by omega)⟩, ⟨rfl, (by omega)⟩, ⟨rfl, (by omega)⟩, ⟨rfl, (by omega)⟩, ⟨rfl, (by omega)⟩, ⟨rfl, (by omega)⟩, ⟨rfl, (by omega)⟩, ⟨rfl, (by omega)⟩, ⟨rfl, (by omega)⟩, ⟨rfl, (by omega)⟩, ⟨rfl, (by omega)⟩, ⟨rfl, (by omega)⟩, ⟨rfl, (by omega)⟩, ⟨rfl, (by omega)⟩, ⟨rfl, (by omega)⟩, ⟨rfl, (by omega)⟩, ⟨rfl, (by omega)⟩, ⟨rfl, (by omega)⟩, ⟨rfl, (by omega)⟩, trivial⟩ L27 (by decide) ?_
      intro w41 v42 k43 ov42 uv42
      have z44 : ∀ x ∈ ob v42, w.heap.size ≤ x := fresh_new G26.size rfl uv42
      replace s28 := s28.go (k43.weaken (fun _ h => absurd h List.not_mem_nil)) (fun _ h _ => h)
      replace ov34 := ov34.go (k43.weaken (fun _ h => absurd h List.not_mem_nil)) (fun _ h _ => h)
      replace ov38 := ov38.go (k43.weaken (fun _ h => absurd h List.not_mem_nil)) (fun _ h _ => h)
      replace G26 := G26.grow k43
      replace L27 := L27.grow k43
      refine wl_ok (r_assign (v := v42) rfl) ?_
      refine wl_nil ?_
      refine then_normal ?_
      refine wc_seq ?_
      refine wc_region ?_
      refine wl_ok (r_move (v := v34) rfl) ?_
      refine wl_buildSlice (R := rInt) (M := M) (vs := [(.int .i64 (1000000000)), (.int .i64 (24)), (.int .i64 (4)), (.int .i64 (3)), (.int .i64 (6)), (.int .i64 (30)), (.int .i64 (4)), (.int .i64 (40)), (.int .i64 (2000)), (.int .i64 (4)), (.int .i64 (24)), (.int .i64 (10)), (.int .i64 (1200)), (.int .i64 (40)), (.int .i64 (2000)), (.int .i64 (60000)), (.int .i64 (3)), (.int .i64 (3)), (.int .i64 (100)), (.int .i64 (120)), (.int .i64 (40)), (.int .i64 (120))]) (xs := [1000000000, 24, 4, 3, 6, 30, 4, 40, 2000, 4, 24, 10, 1200, 40, 2000, 60000, 3, 3, 100, 120, 40, 120]) ElemOf24 rfl rfl rfl ⟨⟨rfl, (by omega)⟩, ⟨rfl, (by omega)⟩, ⟨rfl, (by omega)⟩, ⟨rfl, (by omega)⟩, ⟨rfl, (by omega)⟩, ⟨rfl, (by omega)⟩, ⟨rfl, (by omega)⟩, ⟨rfl, (by omega)⟩, ⟨rfl, (by omega)⟩, ⟨rfl, (by omega)⟩, ⟨rfl, (by omega)⟩, ⟨rfl, (by omega)⟩, ⟨rfl, (by omega)⟩, ⟨rfl, (by omega)⟩, ⟨rfl, (by omega)⟩, ⟨rfl, (by omega)⟩, ⟨rfl, (by omega)⟩, ⟨rfl, (by omega)⟩, ⟨rfl, (by omega)⟩, ⟨rfl, (by omega)⟩, ⟨rfl, (by omega)⟩, ⟨rfl, (by omega)⟩, trivial⟩ L27 (by decide) ?_
      intro w45 v46 k47 ov46 uv46
      have z48 : ∀ x ∈ ob v46, w.heap.size ≤ x := fresh_new G26.size rfl uv46
      replace s28 := s28.go (k47.weaken (fun _ h => absurd h List.not_mem_nil)) (fun _ h _ => h)
      replace ov34 := ov34.go (k47.weaken (fun _ h => absurd h List.not_mem_nil)) (fun _ h _ => h)
      replace ov38 := ov38.go (k47.weaken (fun _ h => absurd h List.not_mem_nil)) (fun _ h _ => h)
      replace ov42 := ov42.go (k47.weaken (fun _ h => absurd h List.not_mem_nil)) (fun _ h _ => h)
      replace G26 := G26.grow k47
      replace L27 := L27.grow k47
      refine wl_call (args := [v34, v46]) fnOk14 rfl rfl (equal_calls M _ L27 v34 v46 ([1000000000, 24, 4, 3, 6, 30, 4, 40, 2000, 4, 24, 10, 1200, 40, 2000, 60000, 3, 3, 100, 120, 40, 120] : List (Int)) ([1000000000, 24, 4, 3, 6, 30, 4, 40, 2000, 4, 24, 10, 1200, 40, 2000, 60000, 3, 3, 100, 120, 40, 120] : List (Int)) ov34.rd ov46.rd) ?_
      rintro _ w49 ⟨rfl, k50⟩
      refine ⟨_, rfl, ?_⟩
      replace s28 := s28.go (k50.weaken (fun _ h => absurd h List.not_mem_nil)) (fun _ h _ => h)
      replace ov34 := ov34.go (k50.weaken (fun _ h => absurd h List.not_mem_nil)) (fun _ h _ => h)
      replace ov38 := ov38.go (k50.weaken (fun _ h => absurd h List.not_mem_nil)) (fun _ h _ => h)
      replace ov42 := ov42.go (k50.weaken (fun _ h => absurd h List.not_mem_nil)) (fun _ h _ => h)
      replace ov46 := ov46.go (k50.weaken (fun _ h => absurd h List.not_mem_nil)) (fun _ h _ => h)
      replace G26 := G26.grow k50
      replace L27 := L27.grow k50
      have q51 : Value.bool (eqInts ([1000000000, 24, 4, 3, 6, 30, 4, 40, 2000, 4, 24, 10, 1200, 40, 2000, 60000, 3, 3, 100, 120, 40, 120] : List (Int)) ([1000000000, 24, 4, 3, 6, 30, 4, 40, 2000, 4, 24, 10, 1200, 40, 2000, 60000, 3, 3, 100, 120, 40, 120] : List (Int))) = Value.bool true := by rw [show (eqInts ([1000000000, 24, 4, 3, 6, 30, 4, 40, 2000, 4, 24, 10, 1200, 40, 2000, 60000, 3, 3, 100, 120, 40, 120] : List (Int)) ([1000000000, 24, 4, 3, 6, 30, 4, 40, 2000, 4, 24, 10, 1200, 40, 2000, 60000, 3, 3, 100, 120, 40, 120] : List (Int))) = true from by decide]
      refine wl_ok (r_move (v := (.bool (eqInts ([1000000000, 24, 4, 3, 6, 30, 4, 40, 2000, 4, 24, 10, 1200, 40, 2000, 60000, 3, 3, 100, 120, 40, 120] : List (Int)) ([1000000000, 24, 4, 3, 6, 30, 4, 40, 2000, 4, 24, 10, 1200, 40, 2000, 60000, 3, 3, 100, 120, 40, 120] : List (Int))))) rfl) ?_
      refine wl_on rfl q51 ?_
      refine wl_ok (r_move (v := v38) rfl) ?_
      refine wl_on rfl q51 ?_
      refine wl_buildSlice (R := rInt) (M := M) (vs := [(.int .i64 (1)), (.int .i64 (2)), (.int .i64 (3)), (.int .i64 (4)), (.int .i64 (5)), (.int .i64 (6)), (.int .i64 (1)), (.int .i64 (2)), (.int .i64 (3)), (.int .i64 (4)), (.int .i64 (5)), (.int .i64 (1)), (.int .i64 (2)), (.int .i64 (3)), (.int .i64 (4)), (.int .i64 (5)), (.int .i64 (6)), (.int .i64 (7)), (.int .i64 (8)), (.int .i64 (0)), (.int .i64 (1)), (.int .i64 (2)), (.int .i64 (0)), (.int .i64 (1)), (.int .i64 (2)), (.int .i64 (3))]) (xs := [1, 2, 3, 4, 5, 6, 1, 2, 3, 4, 5, 1, 2, 3, 4, 5, 6, 7, 8, 0, 1, 2, 0, 1, 2, 3]) ElemOf24 rfl rfl rfl ⟨⟨rfl, (by omega)⟩, ⟨rfl, (by omega)⟩, ⟨rfl, (by omega)⟩, ⟨rfl, (by omega)⟩, ⟨rfl, (by omega)⟩, ⟨rfl, (by omega)⟩, ⟨rfl, (by omega)⟩, ⟨rfl, (by omega)⟩, ⟨rfl, (by omega)⟩, ⟨rfl, (by omega)⟩, ⟨rfl, (by omega)⟩, ⟨rfl, (by omega)⟩, ⟨rfl, (by omega)⟩, ⟨rfl, (by omega)⟩, ⟨rfl, (by omega)⟩, ⟨rfl, (by omega)⟩, ⟨rfl, (by omega)⟩, ⟨rfl, (by omega)⟩, ⟨rfl, (by omega)⟩, ⟨rfl, (by omega)⟩, ⟨rfl, (by omega)⟩, ⟨rfl, (by omega)⟩, ⟨rfl, (by omega)⟩, ⟨rfl, (by omega)⟩, ⟨rfl, (by omega)⟩, ⟨rfl, (by omega)⟩, trivial⟩ L27 (by decide) ?_
      intro w52 v53 k54 ov53 uv53
      have z55 : ∀ x ∈ ob v53, w.heap.size ≤ x := fresh_new G26.size rfl uv53
      replace s28 := s28.go (k54.weaken (fun _ h => absurd h List.not_mem_nil)) (fun _ h _ => h)
      replace ov34 := ov34.go (k54.weaken (fun _ h => absurd h List.not_mem_nil)) (fun _ h _ => h)
      replace ov38 := ov38.go (k54.weaken (fun _ h => absurd h List.not_mem_nil)) (fun _ h _ => h)
      replace ov42 := ov42.go (k54.weaken (fun _ h => absurd h List.not_mem_nil)) (fun _ h _ => h)
      replace ov46 := ov46.go (k54.weaken (fun _ h => absurd h List.not_mem_nil)) (fun _ h _ => h)
      replace G26 := G26.grow k54
      replace L27 := L27.grow k54
      refine wl_on rfl q51 ?_
      refine wl_call (args := [v38, v53]) fnOk14 rfl rfl (equal_calls M _ L27 v38 v53 ([1, 2, 3, 4, 5, 6, 1, 2, 3, 4, 5, 1, 2, 3, 4, 5, 6, 7, 8, 0, 1, 2, 0, 1, 2, 3] : List (Int)) ([1, 2, 3, 4, 5, 6, 1, 2, 3, 4, 5, 1, 2, 3, 4, 5, 6, 7, 8, 0, 1, 2, 0, 1, 2, 3] : List (Int)) ov38.rd ov53.rd) ?_
      rintro _ w56 ⟨rfl, k57⟩
      refine ⟨_, rfl, ?_⟩
      replace s28 := s28.go (k57.weaken (fun _ h => absurd h List.not_mem_nil)) (fun _ h _ => h)
      replace ov34 := ov34.go (k57.weaken (fun _ h => absurd h List.not_mem_nil)) (fun _ h _ => h)
      replace ov38 := ov38.go (k57.weaken (fun _ h => absurd h List.not_mem_nil)) (fun _ h _ => h)
      replace ov42 := ov42.go (k57.weaken (fun _ h => absurd h List.not_mem_nil)) (fun _ h _ => h)
      replace ov46 := ov46.go (k57.weaken (fun _ h => absurd h List.not_mem_nil)) (fun _ h _ => h)
      replace ov53 := ov53.go (k57.weaken (fun _ h => absurd h List.not_mem_nil)) (fun _ h _ => h)
      replace G26 := G26.grow k57
      replace L27 := L27.grow k57
      have q58 : Value.bool (eqInts ([1, 2, 3, 4, 5, 6, 1, 2, 3, 4, 5, 1, 2, 3, 4, 5, 6, 7, 8, 0, 1, 2, 0, 1, 2, 3] : List (Int)) ([1, 2, 3, 4, 5, 6, 1, 2, 3, 4, 5, 1, 2, 3, 4, 5, 6, 7, 8, 0, 1, 2, 0, 1, 2, 3] : List (Int))) = Value.bool true := by rw [show (eqInts ([1, 2, 3, 4, 5, 6, 1, 2, 3, 4, 5, 1, 2, 3, 4, 5, 6, 7, 8, 0, 1, 2, 0, 1, 2, 3] : List (Int)) ([1, 2, 3, 4, 5, 6, 1, 2, 3, 4, 5, 1, 2, 3, 4, 5, 6, 7, 8, 0, 1, 2, 0, 1, 2, 3] : List (Int))) = true from by decide]
      refine wl_ok (r_pick (b := true) (v := (.bool (eqInts ([1, 2, 3, 4, 5, 6, 1, 2, 3, 4, 5, 1, 2, 3, 4, 5, 6, 7, 8, 0, 1, 2, 0, 1, 2, 3] : List (Int)) ([1, 2, 3, 4, 5, 6, 1, 2, 3, 4, 5, 1, 2, 3, 4, 5, 6, 7, 8, 0, 1, 2, 0, 1, 2, 3] : List (Int))))) q51 rfl) ?_
      refine wl_ok (r_move (v := (.bool (eqInts ([1, 2, 3, 4, 5, 6, 1, 2, 3, 4, 5, 1, 2, 3, 4, 5, 6, 7, 8, 0, 1, 2, 0, 1, 2, 3] : List (Int)) ([1, 2, 3, 4, 5, 6, 1, 2, 3, 4, 5, 1, 2, 3, 4, 5, 6, 7, 8, 0, 1, 2, 0, 1, 2, 3] : List (Int))))) rfl) ?_
      refine wl_on rfl q58 ?_
      refine wl_ok (r_move (v := v42) rfl) ?_
      refine wl_on rfl q58 ?_
      refine wl_buildSlice (R := rInt) (M := M) (vs := [(.int .i64 (1)), (.int .i64 (2)), (.int .i64 (3)), (.int .i64 (4)), (.int .i64 (5)), (.int .i64 (6)), (.int .i64 (7)), (.int .i64 (8)), (.int .i64 (9)), (.int .i64 (10)), (.int .i64 (11)), (.int .i64 (12)), (.int .i64 (13)), (.int .i64 (1)), (.int .i64 (2)), (.int .i64 (3)), (.int .i64 (4)), (.int .i64 (5)), (.int .i64 (1)), (.int .i64 (2)), (.int .i64 (3)), (.int .i64 (4)), (.int .i64 (5)), (.int .i64 (6)), (.int .i64 (7)), (.int .i64 (8)), (.int .i64 (9))]) (xs := [1, 2, 3, 4, 5, 6, 7, 8, 9, 10, 11, 12, 13, 1, 2, 3, 4, 5, 1, 2, 3, 4, 5, 6, 7, 8, 9]) ElemOf24 rfl rfl rfl ⟨⟨rfl, (by omega)⟩, ⟨rfl, (by omega)⟩, ⟨rfl, (by omega)⟩, ⟨rfl, (by omega)⟩, ⟨rfl, (by omega)⟩, ⟨rfl, (by omega)⟩, ⟨rfl, (by omega)⟩, ⟨rfl, (by omega)⟩, ⟨rfl, (by omega)⟩, ⟨rfl, (by omega)⟩, ⟨rfl, (by omega)⟩, ⟨rfl, (by omega)⟩, ⟨rfl, (by omega)⟩, ⟨rfl, (by omega)⟩, ⟨rfl, (by omega)⟩, ⟨rfl, (by omega)⟩, ⟨rfl, (by omega)⟩, ⟨rfl, (by omega)⟩, ⟨rfl, (by omega)⟩, ⟨rfl, (by omega)⟩, ⟨rfl, (by omega)⟩, ⟨rfl, (by omega)⟩, ⟨rfl, (by omega)⟩, ⟨rfl, (by omega)⟩, ⟨rfl, (by omega)⟩, ⟨rfl, (by omega)⟩, ⟨rfl, (by omega)⟩, trivial⟩ L27 (by decide) ?_
      intro w59 v60 k61 ov60 uv60
      have z62 : ∀ x ∈ ob v60, w.heap.size ≤ x := fresh_new G26.size rfl uv60
      replace s28 := s28.go (k61.weaken (fun _ h => absurd h List.not_mem_nil)) (fun _ h _ => h)
      replace ov34 := ov34.go (k61.weaken (fun _ h => absurd h List.not_mem_nil)) (fun _ h _ => h)
      replace ov38 := ov38.go (k61.weaken (fun _ h => absurd h List.not_mem_nil)) (fun _ h _ => h)
      replace ov42 := ov42.go (k61.weaken (fun _ h => absurd h List.not_mem_nil)) (fun _ h _ => h)
      replace ov46 := ov46.go (k61.weaken (fun _ h => absurd h List.not_mem_nil)) (fun _ h _ => h)
      replace ov53 := ov53.go (k61.weaken (fun _ h => absurd h List.not_mem_nil)) (fun _ h _ => h)
      replace G26 := G26.grow k61
      replace L27 := L27.grow k61
      refine wl_on rfl q58 ?_
      refine wl_call (args := [v42, v60]) fnOk14 rfl rfl (equal_calls M _ L27 v42 v60 ([1, 2, 3, 4, 5, 6, 7, 8, 9, 10, 11, 12, 13, 1, 2, 3, 4, 5, 1, 2, 3, 4, 5, 6, 7, 8, 9] : List (Int)) ([1, 2, 3, 4, 5, 6, 7, 8, 9, 10, 11, 12, 13, 1, 2, 3, 4, 5, 1, 2, 3, 4, 5, 6, 7, 8, 9] : List (Int)) ov42.rd ov60.rd) ?_
      rintro _ w63 ⟨rfl, k64⟩
      refine ⟨_, rfl, ?_⟩
      replace s28 := s28.go (k64.weaken (fun _ h => absurd h List.not_mem_nil)) (fun _ h _ => h)
      replace ov34 := ov34.go (k64.weaken (fun _ h => absurd h List.not_mem_nil)) (fun _ h _ => h)
      replace ov38 := ov38.go (k64.weaken (fun _ h => absurd h List.not_mem_nil)) (fun _ h _ => h)
      replace ov42 := ov42.go (k64.weaken (fun _ h => absurd h List.not_mem_nil)) (fun _ h _ => h)
      replace ov46 := ov46.go (k64.weaken (fun _ h => absurd h List.not_mem_nil)) (fun _ h _ => h)
      replace ov53 := ov53.go (k64.weaken (fun _ h => absurd h List.not_mem_nil)) (fun _ h _ => h)
      replace ov60 := ov60.go (k64.weaken (fun _ h => absurd h List.not_mem_nil)) (fun _ h _ => h)
      replace G26 := G26.grow k64
      replace L27 := L27.grow k64
      have q65 : Value.bool (eqInts ([1, 2, 3, 4, 5, 6, 7, 8, 9, 10, 11, 12, 13, 1, 2, 3, 4, 5, 1, 2, 3, 4, 5, 6, 7, 8, 9] : List (Int)) ([1, 2, 3, 4, 5, 6, 7, 8, 9, 10, 11, 12, 13, 1, 2, 3, 4, 5, 1, 2, 3, 4, 5, 6, 7, 8, 9] : List (Int))) = Value.bool true := by rw [show (eqInts ([1, 2, 3, 4, 5, 6, 7, 8, 9, 10, 11, 12, 13, 1, 2, 3, 4, 5, 1, 2, 3, 4, 5, 6, 7, 8, 9] : List (Int)) ([1, 2, 3, 4, 5, 6, 7, 8, 9, 10, 11, 12, 13, 1, 2, 3, 4, 5, 1, 2, 3, 4, 5, 6, 7, 8, 9] : List (Int))) = true from by decide]
      refine wl_ok (r_pick (b := true) (v := (.bool (eqInts ([1, 2, 3, 4, 5, 6, 7, 8, 9, 10, 11, 12, 13, 1, 2, 3, 4, 5, 1, 2, 3, 4, 5, 6, 7, 8, 9] : List (Int)) ([1, 2, 3, 4, 5, 6, 7, 8, 9, 10, 11, 12, 13, 1, 2, 3, 4, 5, 1, 2, 3, 4, 5, 6, 7, 8, 9] : List (Int))))) q58 rfl) ?_
      refine wl_ok (r_assign (v := (.bool (eqInts ([1, 2, 3, 4, 5, 6, 7, 8, 9, 10, 11, 12, 13, 1, 2, 3, 4, 5, 1, 2, 3, 4, 5, 6, 7, 8, 9] : List (Int)) ([1, 2, 3, 4, 5, 6, 7, 8, 9, 10, 11, 12, 13, 1, 2, 3, 4, 5, 1, 2, 3, 4, 5, 6, 7, 8, 9] : List (Int))))) rfl) ?_
      refine wl_nil ?_
      refine then_normal ?_
      refine wc_ret ?_
      refine fin1 (v := (.bool (eqInts ([1, 2, 3, 4, 5, 6, 7, 8, 9, 10, 11, 12, 13, 1, 2, 3, 4, 5, 1, 2, 3, 4, 5, 6, 7, 8, 9] : List (Int)) ([1, 2, 3, 4, 5, 6, 7, 8, 9, 10, 11, 12, 13, 1, 2, 3, 4, 5, 1, 2, 3, 4, 5, 6, 7, 8, 9] : List (Int))))) Try.results3 rfl ?_
      exact ⟨congrArg Ending.returned q65, G26⟩

end Go.Proofs.Ytkjajililnbimaa

