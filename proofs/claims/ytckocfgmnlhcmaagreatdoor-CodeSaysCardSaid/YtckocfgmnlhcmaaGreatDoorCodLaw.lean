/-
  Plain laws.
-/
import Derived.Test.YtckocfgmnlhcmaaGreatDoorWrdLaw
set_option linter.unusedSimpArgs false
set_option linter.unusedVariables false
namespace Go.Proofs.YtckocfgmnlhcmaaGreatDoor
namespace Cod
open Go Go.Proofs Go.LX
theorem eqInt (a b : List Int) : slices_Equal_int a b = some (decide (a = b)) := by
  unfold slices_Equal_int
  by_cases h : a.length = b.length
  · rw [dF (by omega)]
    simp only [cond_false, Int.toNat_natCast]
    rw [upto_all2 (fun x y => decide (x = y)) a b h rfl (fun i x y nx h1 h2 => by
      unfold slices_Equal_int_b3
      rw [idx_nat, idx_nat, h1, h2]
      by_cases e : x = y <;> simp [e]), all2_eq (fun _ _ => rfl)]
  · rw [dT (by omega)]
    have : a ≠ b := fun e => h (by rw [e])
    rw [dF this]; rfl
theorem eachI_all2g {α β : Type} {body : Int → α → Unit → (Unit → Option Bool) → Option Bool} {kk : Unit → Option Bool} (p : α → β → Bool) (a : List α) (b : List β) (hl : a.length = b.length)
    (hb : ∀ (i : Nat) x y nx, b[i]? = some y → body (i : Int) x () nx = bif p x y then nx () else some false) : eachI body kk 0 a () = bif all2 p a b then kk () else some false := by
  have key : ∀ (l : List α) (i : Nat), i + l.length = b.length → eachI body kk (i : Int) l () = bif all2 p l (b.drop i) then kk () else some false := by
    intro l
    induction l with
    | nil =>
      intro i h
      rw [List.drop_eq_nil_of_le (by simp at h; omega)]
      rfl
    | cons x l ih =>
      intro i h
      have h2 : i < b.length := by simp at h; omega
      rw [List.drop_eq_getElem_cons h2]
      show body (i : Int) x () (eachI body kk ((i : Int) + 1) l) = _
      rw [hb i x b[i] _ (List.getElem?_eq_getElem h2)]
      cases hp : p x b[i] with
      | true => simp only [cond_true, all2, hp, Bool.true_and]; exact ih (i + 1) (by simp at h; omega)
      | false => simp [all2, hp]
  have := key a 0 (by omega)
  simpa using this
theorem code_same (a b : List Proc) : code_Same a b = some (decide (a = b)) := by
  unfold code_Same
  by_cases h : a.length = b.length
  · rw [dF (by omega)]
    simp only [cond_false]
    rw [eachI_all2g (fun x y => decide (x = y)) a b h (fun i x y nx h2 => by
      obtain ⟨xp, xr, xc⟩ := x
      obtain ⟨yp, yr, yc⟩ := y
      unfold code_Same_b791
      rw [idx_nat, h2, Option.bind_some]
      simp only
      by_cases e1 : xp = yp
      · by_cases e2 : xr = yr
        · subst e1 e2
          simp only [decide_true, Bool.and_self, cond_true]
          by_cases e3 : xc.length = yc.length
          · rw [dF (by omega)]
            simp only [cond_false]
            rw [eachI_all2g (fun x y => decide (x = y)) xc yc e3 (fun i x y nx h2 => by
              obtain ⟨xo, xa, xb, xd, xl⟩ := x
              obtain ⟨yo, ya, yb, yd, yl⟩ := y
              unfold code_Same_b789
              rw [idx_nat, h2, Option.bind_some]
              simp only [eqInt, Option.bind_some, code_Same_j788, code_Same_j766, Ins.mk.injEq]
              by_cases e4 : xo = yo <;> by_cases e5 : xa = ya <;> by_cases e6 : xb = yb <;> by_cases e7 : xd = yd <;> by_cases e8 : xl = yl <;> simp [e4, e5, e6, e7, e8]), all2_eq (fun _ _ => rfl)]
            simp [code_Same_k790, code_Same_j766]
          · rw [dT (by omega)]
            have : xc ≠ yc := fun e => e3 (by rw [e])
            simp [this, code_Same_j766]
        · simp [e2, code_Same_j766]
      · simp [e1, code_Same_j766]), all2_eq (fun _ _ => rfl)]
    unfold code_Same_k792
    by_cases e : a = b <;> simp [e]
  · rw [dT (by omega)]
    have : a ≠ b := fun e => h (by rw [e])
    rw [dF this]; rfl
theorem ref_same (a b : List Proc) : wandererref_SameCode a b = some (decide (a = b)) := by rw [← code_same]; rfl
theorem belowL (a b : Int) : (decide (0 ≤ a) && decide (a < b)) = wandererref_below a b := rfl
theorem inL (a b c : Int) : (decide (b ≤ a) && decide (a ≤ c)) = wandererref_in a b c := rfl
theorem fitsL (a : Int) : wandererref_fits a = wandererref_in a (-1000000000) 1000000000 := rfl
theorem notBelow (a b : Int) : (decide (a < 0) || decide (b ≤ a)) = !wandererref_below a b := by
  unfold wandererref_below; rw [Bool.eq_iff_iff]; simp; try omega
theorem below4 (a : Int) : wandererref_below a 4 = wandererref_in a 0 3 := by
  unfold wandererref_below wandererref_in; rw [Bool.eq_iff_iff]; simp; omega
theorem idx0 {α : Type} (x : α) (l : List α) : idx (x :: l) 0 = some x := by simp [idx]
theorem idx1' {α : Type} (x y : α) (l : List α) : idx (x :: y :: l) 1 = some y := by simp [idx]
theorem idx2 {α : Type} (x y z : α) (l : List α) : idx (x :: y :: z :: l) 2 = some z := by simp [idx]
theorem args_each (op a b c : Int) (x : Proc) (n : Int) (hn : n = x.regs) (full : List Int) (h : op = 7) : ∀ l : List Int, each (code_check_b8 n) code_check_k9 l () = each (wandererref_checkIns_b10 ⟨op, a, b, c, full⟩ x) wandererref_checkIns_k11 l ()
  | [] => rfl
  | y :: l => by
    subst hn h
    have e1 : each (code_check_b8 x.regs) code_check_k9 (y :: l) () = bif (!wandererref_below y x.regs) then some 3 else each (code_check_b8 x.regs) code_check_k9 l () := rfl
    have e2 : each (wandererref_checkIns_b10 ⟨7, a, b, c, full⟩ x) wandererref_checkIns_k11 (y :: l) () = bif (!wandererref_below y x.regs) then some 3 else each (wandererref_checkIns_b10 ⟨7, a, b, c, full⟩ x) wandererref_checkIns_k11 l () := rfl
    rw [e1, e2, args_each 7 a b c x x.regs rfl full rfl l]
theorem args_none (c : Ins) (x : Proc) (h : c.op ≠ 7) : ∀ l : List Int, each (wandererref_checkIns_b10 c x) wandererref_checkIns_k11 l () = some 0
  | [] => rfl
  | y :: l => by
    have e2 : each (wandererref_checkIns_b10 c x) wandererref_checkIns_k11 (y :: l) () = bif (decide (c.op = 7) && !wandererref_below y x.regs) then some 3 else each (wandererref_checkIns_b10 c x) wandererref_checkIns_k11 l () := rfl
    rw [e2, dF h, Bool.false_and]
    exact args_none c x h l
theorem len_one {l : List Int} : l.length = 1 ↔ ∃ x, l = [x] := by
  match l with
  | [] => simp
  | [x] => simp
  | x :: y :: r => simp
set_option maxHeartbeats 2000000 in
theorem ins_eq (c : Ins) (i : Int) (x : Proc) (ps : List Proc) : code_check c i ps x.regs (x.code.length : Int) = wandererref_checkIns c x ps := by
  obtain ⟨op, a, b, c, args⟩ := c
  by_cases h1 : op = 1
  · subst h1
    simp [code_check, code_uses, code_uses_j4, code_uses_j5, code_uses_j6, code_check_1_, code_check_j4, code_check_j5, code_check_j10, code_check_j11, code_check_j12, wandererref_checkIns, wandererref_checkIns_b16, wandererref_checkIns_k17, wandererref_checkIns_j5, wandererref_checkIns_b12, wandererref_checkIns_k13, wandererref_checkIns_j14, wandererref_checkIns_j15, lk, eachI, idx0, idx1', idx2, belowL, inL, notBelow, fitsL, below4]
    cases ha : wandererref_below a x.regs <;> cases hf : wandererref_in b (-1000000000) 1000000000 <;> by_cases zc : c = 0 <;> by_cases zargs : args = [] <;> simp_all [each, wandererref_checkIns_k11]
  by_cases h2 : op = 2
  · subst h2
    simp [code_check, code_uses, code_uses_j4, code_uses_j5, code_uses_j6, code_check_1_, code_check_j4, code_check_j5, code_check_j10, code_check_j11, code_check_j12, wandererref_checkIns, wandererref_checkIns_b16, wandererref_checkIns_k17, wandererref_checkIns_j5, wandererref_checkIns_b12, wandererref_checkIns_k13, wandererref_checkIns_j14, wandererref_checkIns_j15, lk, eachI, idx0, idx1', idx2, belowL, inL, notBelow, fitsL, below4]
    cases ha : wandererref_below a x.regs <;> cases hb : wandererref_below b x.regs <;> by_cases zc : c = 0 <;> by_cases zargs : args = [] <;> simp_all [each, wandererref_checkIns_k11]
  by_cases h3 : op = 3
  · subst h3
    simp [code_check, code_uses, code_uses_j4, code_uses_j5, code_uses_j6, code_check_1_, code_check_j4, code_check_j5, code_check_j10, code_check_j11, code_check_j12, wandererref_checkIns, wandererref_checkIns_b16, wandererref_checkIns_k17, wandererref_checkIns_j5, wandererref_checkIns_b12, wandererref_checkIns_k13, wandererref_checkIns_j14, wandererref_checkIns_j15, lk, eachI, idx0, idx1', idx2, belowL, inL, notBelow, fitsL, below4]
    cases ha : wandererref_below a x.regs <;> cases hb : wandererref_below b x.regs <;> cases hc : wandererref_below c x.regs <;> simp_all [each, wandererref_checkIns_k11]
    by_cases e : args.length = 1
    · obtain ⟨y, rfl⟩ := len_one.1 e
      cases hy : wandererref_in y 1 5 <;> simp_all [code_check, code_uses, code_uses_j4, code_uses_j5, code_uses_j6, code_check_1_, code_check_j4, code_check_j5, code_check_j10, code_check_j11, code_check_j12, wandererref_checkIns, wandererref_checkIns_b16, wandererref_checkIns_k17, wandererref_checkIns_j5, wandererref_checkIns_b12, wandererref_checkIns_k13, wandererref_checkIns_j14, wandererref_checkIns_j15, lk, eachI, idx0, idx1', idx2, belowL, inL, notBelow, fitsL, below4, each, wandererref_checkIns_b10, wandererref_checkIns_k11]
    · rw [dF (show ¬ ((args.length : Int) = 1) by omega)]; rfl
  by_cases h4 : op = 4
  · subst h4
    simp [code_check, code_uses, code_uses_j4, code_uses_j5, code_uses_j6, code_check_1_, code_check_j4, code_check_j5, code_check_j10, code_check_j11, code_check_j12, wandererref_checkIns, wandererref_checkIns_b16, wandererref_checkIns_k17, wandererref_checkIns_j5, wandererref_checkIns_b12, wandererref_checkIns_k13, wandererref_checkIns_j14, wandererref_checkIns_j15, lk, eachI, idx0, idx1', idx2, belowL, inL, notBelow, fitsL, below4]
    cases ha : wandererref_below a x.regs <;> cases hb : wandererref_below b x.regs <;> cases hf : wandererref_in c 0 3 <;> by_cases zargs : args = [] <;> simp_all [each, wandererref_checkIns_k11]
  by_cases h5 : op = 5
  · subst h5
    simp [code_check, code_uses, code_uses_j4, code_uses_j5, code_uses_j6, code_check_1_, code_check_j4, code_check_j5, code_check_j10, code_check_j11, code_check_j12, wandererref_checkIns, wandererref_checkIns_b16, wandererref_checkIns_k17, wandererref_checkIns_j5, wandererref_checkIns_b12, wandererref_checkIns_k13, wandererref_checkIns_j14, wandererref_checkIns_j15, lk, eachI, idx0, idx1', idx2, belowL, inL, notBelow, fitsL, below4]
    cases ha : wandererref_below a x.regs <;> cases hf : wandererref_in b 1 4 <;> by_cases zc : c = 0 <;> by_cases zargs : args = [] <;> simp_all [each, wandererref_checkIns_k11]
  by_cases h6 : op = 6
  · subst h6
    simp [code_check, code_uses, code_uses_j4, code_uses_j5, code_uses_j6, code_check_1_, code_check_j4, code_check_j5, code_check_j10, code_check_j11, code_check_j12, wandererref_checkIns, wandererref_checkIns_b16, wandererref_checkIns_k17, wandererref_checkIns_j5, wandererref_checkIns_b12, wandererref_checkIns_k13, wandererref_checkIns_j14, wandererref_checkIns_j15, lk, eachI, idx0, idx1', idx2, belowL, inL, notBelow, fitsL, below4]
    cases ha : wandererref_below a x.regs <;> cases hb : wandererref_below b x.regs <;> by_cases zc : c = 0 <;> by_cases zargs : args = [] <;> simp_all [each, wandererref_checkIns_k11]
  by_cases h7 : op = 7
  · subst h7
    simp [code_check, code_uses, code_uses_j4, code_uses_j5, code_uses_j6, code_check_1_, code_check_j4, code_check_j5, code_check_j10, code_check_j11, code_check_j12, wandererref_checkIns, wandererref_checkIns_b16, wandererref_checkIns_k17, wandererref_checkIns_j5, wandererref_checkIns_b12, wandererref_checkIns_k13, wandererref_checkIns_j14, wandererref_checkIns_j15, lk, eachI, idx0, idx1', idx2, belowL, inL, notBelow, fitsL, below4]
    cases ha : wandererref_below a x.regs <;> cases hf : wandererref_below b (ps.length : Int) <;> simp_all [each, wandererref_checkIns_k11]
    cases hp : idx ps b with
    | none => rfl
    | some y =>
      by_cases zc : c = 0 <;> by_cases za : (args.length : Int) = y.params <;> simp_all
      exact args_each 7 a b 0 x x.regs rfl args rfl args
  by_cases h8 : op = 8
  · subst h8
    simp [code_check, code_uses, code_uses_j4, code_uses_j5, code_uses_j6, code_check_1_, code_check_j4, code_check_j5, code_check_j10, code_check_j11, code_check_j12, wandererref_checkIns, wandererref_checkIns_b16, wandererref_checkIns_k17, wandererref_checkIns_j5, wandererref_checkIns_b12, wandererref_checkIns_k13, wandererref_checkIns_j14, wandererref_checkIns_j15, lk, eachI, idx0, idx1', idx2, belowL, inL, notBelow, fitsL, below4]
    cases ha : wandererref_below a x.regs <;> by_cases zb : b = 0 <;> by_cases zc : c = 0 <;> by_cases zargs : args = [] <;> simp_all [each, wandererref_checkIns_k11]
  by_cases h9 : op = 9
  · subst h9
    simp [code_check, code_uses, code_uses_j4, code_uses_j5, code_uses_j6, code_check_1_, code_check_j4, code_check_j5, code_check_j10, code_check_j11, code_check_j12, wandererref_checkIns, wandererref_checkIns_b16, wandererref_checkIns_k17, wandererref_checkIns_j5, wandererref_checkIns_b12, wandererref_checkIns_k13, wandererref_checkIns_j14, wandererref_checkIns_j15, lk, eachI, idx0, idx1', idx2, belowL, inL, notBelow, fitsL, below4]
    cases ha : wandererref_below a x.regs <;> by_cases zb : b = 0 <;> by_cases zc : c = 0 <;> by_cases zargs : args = [] <;> simp_all [each, wandererref_checkIns_k11]
  by_cases h10 : op = 10
  · subst h10
    simp [code_check, code_uses, code_uses_j4, code_uses_j5, code_uses_j6, code_check_1_, code_check_j4, code_check_j5, code_check_j10, code_check_j11, code_check_j12, wandererref_checkIns, wandererref_checkIns_b16, wandererref_checkIns_k17, wandererref_checkIns_j5, wandererref_checkIns_b12, wandererref_checkIns_k13, wandererref_checkIns_j14, wandererref_checkIns_j15, lk, eachI, idx0, idx1', idx2, belowL, inL, notBelow, fitsL, below4]
    by_cases za : a = 0 <;> by_cases zb : b = 0 <;> by_cases zc : c = 0 <;> by_cases zargs : args = [] <;> simp_all [each, wandererref_checkIns_k11]
  by_cases h11 : op = 11
  · subst h11
    simp [code_check, code_uses, code_uses_j4, code_uses_j5, code_uses_j6, code_check_1_, code_check_j4, code_check_j5, code_check_j10, code_check_j11, code_check_j12, wandererref_checkIns, wandererref_checkIns_b16, wandererref_checkIns_k17, wandererref_checkIns_j5, wandererref_checkIns_b12, wandererref_checkIns_k13, wandererref_checkIns_j14, wandererref_checkIns_j15, lk, eachI, idx0, idx1', idx2, belowL, inL, notBelow, fitsL, below4]
    cases ha : wandererref_below a x.regs <;> by_cases zb : b = 0 <;> by_cases zc : c = 0 <;> by_cases zargs : args = [] <;> simp_all [each, wandererref_checkIns_k11]
  by_cases h12 : op = 12
  · subst h12
    simp [code_check, code_uses, code_uses_j4, code_uses_j5, code_uses_j6, code_check_1_, code_check_j4, code_check_j5, code_check_j10, code_check_j11, code_check_j12, wandererref_checkIns, wandererref_checkIns_b16, wandererref_checkIns_k17, wandererref_checkIns_j5, wandererref_checkIns_b12, wandererref_checkIns_k13, wandererref_checkIns_j14, wandererref_checkIns_j15, lk, eachI, idx0, idx1', idx2, belowL, inL, notBelow, fitsL, below4]
    by_cases za : a = 0 <;> cases hf : wandererref_below b (x.code.length : Int) <;> by_cases zc : c = 0 <;> by_cases zargs : args = [] <;> simp_all [each, wandererref_checkIns_k11]
  by_cases h13 : op = 13
  · subst h13
    simp [code_check, code_uses, code_uses_j4, code_uses_j5, code_uses_j6, code_check_1_, code_check_j4, code_check_j5, code_check_j10, code_check_j11, code_check_j12, wandererref_checkIns, wandererref_checkIns_b16, wandererref_checkIns_k17, wandererref_checkIns_j5, wandererref_checkIns_b12, wandererref_checkIns_k13, wandererref_checkIns_j14, wandererref_checkIns_j15, lk, eachI, idx0, idx1', idx2, belowL, inL, notBelow, fitsL, below4]
    cases ha : wandererref_below a x.regs <;> cases hf : wandererref_below b (x.code.length : Int) <;> by_cases zc : c = 0 <;> by_cases zargs : args = [] <;> simp_all [each, wandererref_checkIns_k11]
  · simp [code_check, code_uses, code_uses_j4, code_uses_j5, code_uses_j6, wandererref_checkIns, lk, *]

/-- What the checked program's first look says of each procedure. -/
def headOk (i : Nat) (x : Proc) : Int :=
  if (0 ≤ x.params ∧ x.params ≤ 3) ∧ (1 ≤ x.regs ∧ x.params ≤ x.regs ∧ x.regs ≤ 40) ∧ ¬ (i = 0 ∧ x.params ≠ 0) then (if 1 ≤ x.code.length ∧ x.code.length ≤ 2000 then 0 else 2) else 3
theorem b39_eq (i : Nat) (x : Proc) (nx : Unit → Option Int) : code_Check_b39 (i : Int) x () nx = if headOk i x ≠ 0 then some (headOk i x) else nx () := by
  unfold code_Check_b39 headOk
  by_cases h1 : (0 ≤ x.params ∧ x.params ≤ 3) ∧ (1 ≤ x.regs ∧ x.params ≤ x.regs ∧ x.regs ≤ 40) ∧ ¬ (i = 0 ∧ x.params ≠ 0)
  · have e : (((((decide ((x.params : Int) < 0) || decide ((3 : Int) < x.params)) || decide ((x.regs : Int) < 1)) || decide ((x.regs : Int) < x.params)) || decide ((40 : Int) < x.regs)) || (decide ((i : Int) = 0) && decide ((0 : Int) < x.params))) = false := by
      simp only [Bool.or_eq_false_iff, Bool.and_eq_false_iff, decide_eq_false_iff_not]; omega
    rw [e, if_pos h1]
    simp only [cond_false]
    by_cases h2 : 1 ≤ x.code.length ∧ x.code.length ≤ 2000
    · rw [if_pos h2, show (decide (((x.code.length : Int) : Int) = 0) || decide ((2000 : Int) < (x.code.length : Int))) = false by simp only [Bool.or_eq_false_iff, decide_eq_false_iff_not]; omega]
      rfl
    · rw [if_neg h2, show (decide (((x.code.length : Int) : Int) = 0) || decide ((2000 : Int) < (x.code.length : Int))) = true by simp only [Bool.or_eq_true, decide_eq_true_eq]; omega]
      rfl
  · have e : (((((decide ((x.params : Int) < 0) || decide ((3 : Int) < x.params)) || decide ((x.regs : Int) < 1)) || decide ((x.regs : Int) < x.params)) || decide ((40 : Int) < x.regs)) || (decide ((i : Int) = 0) && decide ((0 : Int) < x.params))) = true := by
      simp only [Bool.or_eq_true, Bool.and_eq_true, decide_eq_true_eq]; omega
    rw [e, if_neg h1]
    rfl
theorem r39_eq (i : Nat) (x : Proc) (nx : Unit → Option Int) : wandererref_CheckCode_b39 (i : Int) x () nx = if headOk i x ≠ 0 then some (headOk i x) else nx () := by
  unfold wandererref_CheckCode_b39 headOk wandererref_in
  by_cases h1 : (0 ≤ x.params ∧ x.params ≤ 3) ∧ (1 ≤ x.regs ∧ x.params ≤ x.regs ∧ x.regs ≤ 40) ∧ ¬ (i = 0 ∧ x.params ≠ 0)
  · have e : (((!(decide ((0 : Int) ≤ x.params) && decide (x.params ≤ (3 : Int)))) || (!(decide (max 1 x.params ≤ x.regs) && decide (x.regs ≤ (40 : Int))))) || (decide ((i : Int) = 0) && decide ((x.params : Int) ≠ 0))) = false := by
      simp only [Bool.or_eq_false_iff, Bool.and_eq_false_iff, Bool.not_eq_false', Bool.and_eq_true, decide_eq_true_eq, decide_eq_false_iff_not]; omega
    rw [e, if_pos h1]
    simp only [cond_false]
    by_cases h2 : 1 ≤ x.code.length ∧ x.code.length ≤ 2000
    · rw [if_pos h2, show (!(decide ((1 : Int) ≤ (x.code.length : Int)) && decide ((x.code.length : Int) ≤ (2000 : Int)))) = false by simp only [Bool.not_eq_false', Bool.and_eq_true, decide_eq_true_eq]; omega]
      rfl
    · rw [if_neg h2, show (!(decide ((1 : Int) ≤ (x.code.length : Int)) && decide ((x.code.length : Int) ≤ (2000 : Int)))) = true by simp only [Bool.not_eq_true', Bool.and_eq_false_iff, decide_eq_false_iff_not]; omega]
      rfl
  · have e : (((!(decide ((0 : Int) ≤ x.params) && decide (x.params ≤ (3 : Int)))) || (!(decide (max 1 x.params ≤ x.regs) && decide (x.regs ≤ (40 : Int))))) || (decide ((i : Int) = 0) && decide ((x.params : Int) ≠ 0))) = true := by
      simp only [Bool.or_eq_true, Bool.and_eq_true, Bool.not_eq_true', Bool.and_eq_false_iff, decide_eq_true_eq, decide_eq_false_iff_not]; omega
    rw [e, if_neg h1]
    rfl
def heads : Nat → List Proc → Int
  | _, [] => 0
  | i, x :: p => if headOk i x ≠ 0 then headOk i x else heads (i + 1) p
theorem heads_eq (k : Unit → Option Int) : ∀ (p : List Proc) (i : Nat), eachI code_Check_b39 k (i : Int) p () = if heads i p ≠ 0 then some (heads i p) else k ()
  | [], i => by simp [heads, eachI]
  | x :: p, i => by
    show code_Check_b39 (i : Int) x () (eachI code_Check_b39 k ((i : Int) + 1) p) = _
    rw [b39_eq, show ((i : Int) + 1) = ((i + 1 : Nat) : Int) by omega, heads_eq k p (i + 1), heads]
    by_cases h : headOk i x = 0 <;> simp [h]
theorem heads_eq2 (k : Unit → Option Int) : ∀ (p : List Proc) (i : Nat), eachI wandererref_CheckCode_b39 k (i : Int) p () = if heads i p ≠ 0 then some (heads i p) else k ()
  | [], i => by simp [heads, eachI]
  | x :: p, i => by
    show wandererref_CheckCode_b39 (i : Int) x () (eachI wandererref_CheckCode_b39 k ((i : Int) + 1) p) = _
    rw [r39_eq, show ((i : Int) + 1) = ((i + 1 : Nat) : Int) by omega, heads_eq2 k p (i + 1), heads]
    by_cases h : headOk i x = 0 <;> simp [h]
theorem b35_eq (a : List Proc) (x : Proc) (i : Int) (c : Ins) (nx : Unit → Option Int) : code_Check_b35 a x i c () nx = wandererref_CheckCode_b35 x a c () nx := by
  unfold code_Check_b35 wandererref_CheckCode_b35
  rw [ins_eq]
theorem check_loop (a : List Proc) (x : Proc) (k : Unit → Option Int) : ∀ (l : List Ins) (i : Int), eachI (code_Check_b35 a x) k i l () = each (wandererref_CheckCode_b35 x a) k l ()
  | [], i => rfl
  | c :: l, i => by
    have ih : eachI (code_Check_b35 a x) k (i + 1) l = each (wandererref_CheckCode_b35 x a) k l := by funext u; exact check_loop a x k l (i + 1)
    have e1 : eachI (code_Check_b35 a x) k i (c :: l) () = code_Check_b35 a x i c () (eachI (code_Check_b35 a x) k (i + 1) l) := rfl
    have e2 : each (wandererref_CheckCode_b35 x a) k (c :: l) () = wandererref_CheckCode_b35 x a c () (each (wandererref_CheckCode_b35 x a) k l) := rfl
    rw [e1, e2, b35_eq, ih]
theorem b37_eq (a : List Proc) (x : Proc) (nx : Unit → Option Int) : code_Check_b37 a x () nx = wandererref_CheckCode_b37 a x () nx := by
  unfold code_Check_b37 wandererref_CheckCode_b37
  rw [check_loop]
  rfl
theorem check_eq (a : List Proc) : code_Check a = wandererref_CheckCode a := by
  unfold code_Check wandererref_CheckCode
  have e : (decide (((a.length : Int) : Int) = 0) || decide ((4 : Int) < (a.length : Int))) = !(wandererref_in (a.length : Int) 1 4) := by
    unfold wandererref_in; rw [Bool.eq_iff_iff]; simp only [Bool.or_eq_true, Bool.not_eq_true', Bool.and_eq_false_iff, decide_eq_true_eq, decide_eq_false_iff_not]; omega
  rw [e]
  have k1 : ∀ l : List Proc, each (code_Check_b37 a) code_Check_k38 l () = each (wandererref_CheckCode_b37 a) wandererref_CheckCode_k38 l () := by
    intro l
    induction l with
    | nil => rfl
    | cons x l ih =>
      have e1 : each (code_Check_b37 a) code_Check_k38 (x :: l) () = code_Check_b37 a x () (each (code_Check_b37 a) code_Check_k38 l) := rfl
      have e2 : each (wandererref_CheckCode_b37 a) wandererref_CheckCode_k38 (x :: l) () = wandererref_CheckCode_b37 a x () (each (wandererref_CheckCode_b37 a) wandererref_CheckCode_k38 l) := rfl
      have : (each (code_Check_b37 a) code_Check_k38 l) = (each (wandererref_CheckCode_b37 a) wandererref_CheckCode_k38 l) := by funext u; exact ih
      rw [e1, e2, b37_eq, this]
  have h1 := heads_eq (code_Check_k40 a) a 0
  have h2 := heads_eq2 (wandererref_CheckCode_k40 a) a 0
  have h1' : eachI code_Check_b39 (code_Check_k40 a) 0 a () = _ := h1
  have h2' : eachI wandererref_CheckCode_b39 (wandererref_CheckCode_k40 a) 0 a () = _ := h2
  have k2 : code_Check_k40 a () = wandererref_CheckCode_k40 a () := k1 a
  rw [h1', h2', k2]
end Cod
end Go.Proofs.YtckocfgmnlhcmaaGreatDoor

namespace Go.Proofs.YtckocfgmnlhcmaaGreatDoor
namespace Cod
open Go Go.Proofs Go.LX
def CodeLen (x : Proc) : Prop := 1 ≤ x.code.length ∧ x.code.length ≤ 2000
theorem each_cons {α σ ρ : Type} {body : α → σ → (σ → ρ) → ρ} {k : σ → ρ} (x : α) (l : List α) (s : σ) : each body k (x :: l) s = body x s (each body k l) := rfl
theorem each_nil {α σ ρ : Type} {body : α → σ → (σ → ρ) → ρ} {k : σ → ρ} (s : σ) : each body k [] s = k s := rfl
theorem b8_tot (d : Int) : ∀ l : List Int, ∃ y, each (code_check_b8 d) code_check_k9 l () = some y
  | [] => ⟨0, rfl⟩
  | x :: l => by
    obtain ⟨y, hy⟩ := b8_tot d l
    rw [each_cons]
    unfold code_check_b8
    cases (!(decide ((0 : Int) ≤ x) && decide ((x : Int) < d))) with
    | true => exact ⟨3, rfl⟩
    | false => exact ⟨y, hy⟩
theorem j5_tot (x9 : Bool) (a : Ins) (b y12 : Int) (c : List Proc) (y13 x10 d y14 : Int) : ∃ y, code_check_j5 x9 a b y12 c y13 x10 d y14 = some y ∧ (y = 0 → (a.args.length : Int) = x10) := by
  unfold code_check_j5
  cases x9 with
  | false => exact ⟨3, rfl, fun h => absurd h (by decide)⟩
  | true =>
    simp only [Bool.not_true, cond_false]
    generalize hc : (((decide ((a.a : Int) ≠ y14) || decide ((a.b : Int) ≠ y12)) || decide ((a.c : Int) ≠ y13)) || decide (((a.args.length : Int) : Int) ≠ x10)) = C
    cases C with
    | true => exact ⟨4, rfl, fun h => absurd h (by decide)⟩
    | false =>
      simp only [Bool.or_eq_false_iff, decide_eq_false_iff_not, Decidable.not_not] at hc
      simp only [cond_false]
      cases decide ((a.op : Int) = 7) with
      | true => obtain ⟨y, hy⟩ := b8_tot d a.args; exact ⟨y, hy, fun _ => hc.2⟩
      | false => exact ⟨0, rfl, fun _ => hc.2⟩
theorem j4_tot (a : Ins) (b : Int) (c : List Proc) (d : Int) (x9 : Bool) (x10 y11 y12 y13 : Int) : ∃ y, code_check_j4 a b c d x9 x10 y11 y12 y13 = some y ∧ (y = 0 → (a.args.length : Int) = x10) := by
  unfold code_check_j4
  cases decide ((a.op : Int) = 12) with
  | true => exact j5_tot x9 a b y12 c y13 x10 d 0
  | false => exact j5_tot x9 a b y12 c y13 x10 d y11
def InsT (a : Ins) (r : Option Int) : Prop := ∃ y, r = some y ∧ (y = 0 → a.args.length ≤ 3)
theorem j4_t (a : Ins) (b : Int) (c : List Proc) (d : Int) (x9 : Bool) {x10 : Int} (y11 y12 y13 : Int) (h : x10 ≤ 3) : InsT a (code_check_j4 a b c d x9 x10 y11 y12 y13) := by
  obtain ⟨y, h1, h2⟩ := j4_tot a b c d x9 x10 y11 y12 y13
  exact ⟨y, h1, fun h0 => by have := h2 h0; omega⟩
theorem insT_bif {a : Ins} {c : Bool} {x y : Option Int} (h1 : InsT a x) (h2 : InsT a y) : InsT a (bif c then x else y) := by
  cases c
  · exact h2
  · exact h1
theorem insT_err {a : Ins} {e : Int} (h : e ≠ 0) : InsT a (some e) := ⟨e, rfl, fun h0 => absurd h0 h⟩
theorem check_ins (a : Ins) (b : Int) (c : List Proc) (d e : Int) (hp : ∀ x ∈ c, x.params ≤ 3) : InsT a (code_check a b c d e) := by
  unfold code_check
  refine insT_bif (insT_err (by decide)) (insT_bif (insT_err (by decide)) (insT_bif (j4_t _ _ _ _ _ _ _ _ (by decide)) (insT_bif (j4_t _ _ _ _ _ _ _ _ (by decide)) ?_)))
  have k12 : ∀ x, InsT a (code_check_j12 a b c d x) := fun x => by
    unfold code_check_j12
    exact insT_bif (j4_t _ _ _ _ _ _ _ _ (by decide)) (insT_bif (j4_t _ _ _ _ _ _ _ _ (by decide)) (j4_t _ _ _ _ _ _ _ _ (by decide)))
  have k11 : ∀ x, InsT a (code_check_j11 a b c d e x) := fun x => by
    unfold code_check_j11
    refine insT_bif (j4_t _ _ _ _ _ _ _ _ (by decide)) ?_
    cases decide ((a.op : Int) = 7) with
    | false =>
      rw [cond_false]
      exact insT_bif (k12 _) (insT_bif (k12 _) (k12 _))
    | true =>
      simp only [cond_true]
      rw [notBelow]
      cases hb : wandererref_below a.b (c.length : Int) with
      | false => exact insT_err (by decide)
      | true =>
        simp only [Bool.not_true, cond_false]
        unfold wandererref_below at hb
        simp only [Bool.and_eq_true, decide_eq_true_eq] at hb
        obtain ⟨n, hn⟩ := Int.eq_ofNat_of_zero_le hb.1
        rw [hn, idx_lt (by omega), Option.bind_some]
        exact j4_t _ _ _ _ _ _ _ _ (hp _ (List.getElem_mem _))
  have k10 : ∀ x, InsT a (code_check_j10 a b c d e x) := fun x => by
    unfold code_check_j10
    refine insT_bif (j4_t _ _ _ _ _ _ _ _ (by decide)) ?_
    cases decide ((a.op : Int) = 3) with
    | false =>
      rw [cond_false]
      exact insT_bif (k11 _) (k11 _)
    | true =>
      simp only [cond_true]
      by_cases h1 : a.args.length = 1
      · rw [dT (show ((a.args.length : Int) : Int) = 1 by omega)]
        obtain ⟨y, hy⟩ := len_one.1 h1
        simp only [cond_true]
        rw [show idx a.args 0 = some y by rw [hy, idx0], Option.bind_some]
        exact j4_t _ _ _ _ _ _ _ _ (by decide)
      · rw [dF (show ¬ ((a.args.length : Int) : Int) = 1 by omega)]
        exact j4_t _ _ _ _ _ _ _ _ (by decide)
  exact insT_bif (k10 _) (k10 _)
/-- What a checked program is like. -/
def Good (a : List Proc) : Prop := a.length ≤ 4 ∧ ∀ x ∈ a, CodeLen x ∧ ∀ c ∈ x.code, c.args.length ≤ 3
theorem headOk_zero {i : Nat} {x : Proc} (h : headOk i x = 0) : x.params ≤ 3 ∧ CodeLen x := by
  unfold headOk at h
  split at h
  · split at h
    · exact ⟨by omega, by unfold CodeLen; omega⟩
    · cases h
  · cases h
theorem heads_zero : ∀ (p : List Proc) (i : Nat), heads i p = 0 → ∀ x ∈ p, x.params ≤ 3 ∧ CodeLen x
  | [], _, _, x, hx => by cases hx
  | y :: p, i, h, x, hx => by
    unfold heads at h
    split at h
    · rename_i h1; exact absurd h h1
    · rename_i h1
      rcases List.mem_cons.1 hx with rfl | hx
      · exact headOk_zero (Decidable.not_not.1 h1)
      · exact heads_zero p (i + 1) h x hx
theorem b35_tot (a : List Proc) (x : Proc) (k : Unit → Option Int) (hp : ∀ x ∈ a, x.params ≤ 3) (Q : Prop) (hk : ∃ y, k () = some y ∧ (y = 0 → Q)) : ∀ (l : List Ins) (i : Int), ∃ y, eachI (code_Check_b35 a x) k i l () = some y ∧ (y = 0 → Q ∧ ∀ c ∈ l, c.args.length ≤ 3)
  | [], i => by
    obtain ⟨y, h1, h2⟩ := hk
    exact ⟨y, h1, fun h => ⟨h2 h, by intro c hc; cases hc⟩⟩
  | c :: l, i => by
    obtain ⟨y, h1, h2⟩ := b35_tot a x k hp Q hk l (i + 1)
    have e1 : eachI (code_Check_b35 a x) k i (c :: l) () = code_Check_b35 a x i c () (eachI (code_Check_b35 a x) k (i + 1) l) := rfl
    rw [e1]
    unfold code_Check_b35
    obtain ⟨z, g1, g2⟩ := check_ins c i a x.regs (x.code.length : Int) hp
    rw [g1, Option.bind_some]
    by_cases hz : z = 0
    · rw [dF (by omega), cond_false]
      refine ⟨y, h1, fun h => ⟨(h2 h).1, fun d hd => ?_⟩⟩
      rcases List.mem_cons.1 hd with rfl | hd
      · exact g2 hz
      · exact (h2 h).2 d hd
    · rw [dT hz, cond_true]
      exact ⟨z, rfl, fun h => absurd h hz⟩
theorem b37_tot (a : List Proc) (hp : ∀ x ∈ a, x.params ≤ 3 ∧ CodeLen x) : ∀ l : List Proc, (∀ x ∈ l, x.params ≤ 3 ∧ CodeLen x) → ∃ y, each (code_Check_b37 a) code_Check_k38 l () = some y ∧ (y = 0 → ∀ x ∈ l, ∀ c ∈ x.code, c.args.length ≤ 3)
  | [], _ => ⟨0, rfl, fun _ x hx => by cases hx⟩
  | x :: l, hl => by
    obtain ⟨y, h1, h2⟩ := b37_tot a hp l (fun z hz => hl z (List.mem_cons_of_mem _ hz))
    rw [each_cons]
    unfold code_Check_b37
    have hx := hl x (by simp)
    obtain ⟨z, g1, g2⟩ := b35_tot a x (code_Check_k36 x (each (code_Check_b37 a) code_Check_k38 l)) (fun x hx => (hp x hx).1) (∀ x ∈ l, ∀ c ∈ x.code, c.args.length ≤ 3) (by
      unfold code_Check_k36
      have h3 := hx.2
      unfold CodeLen at h3
      rw [gI, show ((x.code.length : Int) - 1) = ((x.code.length - 1 : Nat) : Int) by omega, idx_lt (by omega), Option.bind_some]
      cases (decide ((x.code[x.code.length - 1].op : Int) ≠ 8) && decide ((x.code[x.code.length - 1].op : Int) ≠ 12)) with
      | true => exact ⟨4, rfl, fun h => absurd h (by decide)⟩
      | false => exact ⟨y, h1, h2⟩) x.code 0
    refine ⟨z, g1, fun h => ?_⟩
    intro w hw
    rcases List.mem_cons.1 hw with rfl | hw
    · exact (g2 h).2
    · exact (g2 h).1 w hw
theorem check_tot (a : List Proc) : ∃ y, code_Check a = some y ∧ (y = 0 → Good a) := by
  unfold code_Check
  generalize hc : (decide (((a.length : Int) : Int) = 0) || decide ((4 : Int) < (a.length : Int))) = C
  cases C with
  | true => exact ⟨2, rfl, fun h => absurd h (by decide)⟩
  | false =>
    simp only [Bool.or_eq_false_iff, decide_eq_false_iff_not] at hc
    have h1 : eachI code_Check_b39 (code_Check_k40 a) 0 a () = _ := heads_eq (code_Check_k40 a) a 0
    rw [cond_false, h1]
    by_cases hz : heads 0 a = 0
    · rw [if_neg (by omega)]
      have hp := heads_zero a 0 hz
      obtain ⟨y, g1, g2⟩ := b37_tot a hp a hp
      exact ⟨y, g1, fun h => ⟨by omega, fun x hx => ⟨(hp x hx).2, g2 h x hx⟩⟩⟩
    · rw [if_pos hz]
      exact ⟨_, rfl, fun h => absurd h hz⟩
end Cod
end Go.Proofs.YtckocfgmnlhcmaaGreatDoor

namespace Go.Proofs.YtckocfgmnlhcmaaGreatDoor
namespace Src
open Go Go.Proofs Go.LX
theorem tok_eq (a : Tok) (b : List Fun) (c : Int) : ∃ n e, source_tok a b c = some (n, e) ∧ wandererref_CheckTok a b c = e ∧ (e = 0 → wandererref_asks a b = some n ∧ (n = 0 ∨ n = 1 ∨ n = 2 ∨ ∃ x ∈ b, n = x.params)) := by
  unfold source_tok wandererref_CheckTok wandererref_asks source_tok_j1 wandererref_CheckTok_j1 wandererref_fits wandererref_in wandererref_below
  by_cases h1 : a.kind = 1
  · simp only [h1]
    cases h : (decide ((-1000000000 : Int) ≤ a.n) && decide ((a.n : Int) ≤ 1000000000)) with
    | true => exact ⟨0, 0, rfl, rfl, fun _ => ⟨rfl, by simp⟩⟩
    | false => exact ⟨0, 3, rfl, rfl, fun h => absurd h (by decide)⟩
  by_cases h2 : a.kind = 2
  · simp only [h2]
    cases h : (decide ((0 : Int) ≤ a.n) && decide ((a.n : Int) < c)) with
    | true => exact ⟨0, 0, rfl, rfl, fun _ => ⟨rfl, by simp⟩⟩
    | false => exact ⟨0, 3, rfl, rfl, fun h => absurd h (by decide)⟩
  by_cases h3 : a.kind = 3
  · simp only [h3]
    cases h : (decide ((1 : Int) ≤ a.n) && decide ((a.n : Int) ≤ 5)) with
    | true => exact ⟨2, 0, rfl, rfl, fun _ => ⟨rfl, by simp⟩⟩
    | false => exact ⟨0, 3, rfl, rfl, fun h => absurd h (by decide)⟩
  by_cases h4 : a.kind = 4
  · simp only [h4]
    rw [show decide ((a.n : Int) ≤ 3) = decide (a.n < 4) by rw [decide_eq_decide]; omega]
    cases h : (decide ((0 : Int) ≤ a.n) && decide ((a.n : Int) < 4)) with
    | true => exact ⟨1, 0, rfl, rfl, fun _ => ⟨rfl, by simp⟩⟩
    | false => exact ⟨0, 3, rfl, rfl, fun h => absurd h (by decide)⟩
  by_cases h5 : a.kind = 5
  · simp only [h5]
    cases h : (decide ((1 : Int) ≤ a.n) && decide ((a.n : Int) ≤ 4)) with
    | true => exact ⟨0, 0, rfl, rfl, fun _ => ⟨rfl, by simp⟩⟩
    | false => exact ⟨0, 3, rfl, rfl, fun h => absurd h (by decide)⟩
  by_cases h6 : a.kind = 6
  · simp only [h6]
    by_cases h : (0 : Int) ≤ a.n ∧ a.n < b.length
    · obtain ⟨n, hn⟩ := Int.eq_ofNat_of_zero_le h.1
      have hl : n < b.length := by omega
      have hx : idx b a.n = some b[n] := by rw [hn]; exact idx_lt hl
      refine ⟨b[n].params, 0, ?_, by simp [h], fun _ => ⟨by simp [hx], .inr (.inr (.inr ⟨_, List.getElem_mem hl, rfl⟩))⟩⟩
      have e1 : ¬ a.n < 0 := by omega
      have e2 : ¬ (b.length : Int) ≤ a.n := by omega
      simp [e1, e2, hx]
    · refine ⟨0, 5, ?_, ?_, by simp⟩
      · have : a.n < 0 ∨ (b.length : Int) ≤ a.n := by omega
        rcases this with h | h <;> simp [h]
      · have : a.n < 0 ∨ (b.length : Int) ≤ a.n := by omega
        rcases this with h | h
        · have : ¬ (0 : Int) ≤ a.n := by omega
          simp [this]
        · have : ¬ a.n < (b.length : Int) := by omega
          simp [this]
  exact ⟨0, 4, by simp [h1, h2, h3, h4, h5, h6], by simp [h1, h2, h3, h4, h5, h6], by simp⟩

theorem maxL (l : List Int) (hl : l.length ≤ 1000) : ∀ (k i N : Nat) (m : Int), i + k = l.length → k < N → again (slices_Max_int_b2 l) N (m, (i : Int)) = some ((l.drop i).foldl max m)
  | 0, i, N + 1, m, h, _ => by
    rw [List.drop_eq_nil_of_le (by omega)]
    show slices_Max_int_b2 l (m, (i : Int)) _ = _
    unfold slices_Max_int_b2
    simp only
    rw [decide_eq_false (by omega)]
    rfl
  | k + 1, i, N + 1, m, h, hN => by
    have hi : i < l.length := by omega
    have key := fun m' => maxL l hl k (i + 1) N m' (by omega) (by omega)
    show slices_Max_int_b2 l (m, (i : Int)) (again (slices_Max_int_b2 l) N) = _
    generalize again (slices_Max_int_b2 l) N = nx at key ⊢
    unfold slices_Max_int_b2
    simp only
    rw [decide_eq_true (by omega), idx_lt hi]
    simp only [cond_true, bnd]
    rw [gI, show ((i : Int) + 1) = ((i + 1 : Nat) : Int) from rfl, key, List.drop_eq_getElem_cons hi]
    rfl
theorem foldl_max_pos : ∀ (l : List Int) (m : Int), 0 < l.foldl max m ↔ 0 < m ∨ ∃ x ∈ l, 0 < x
  | [], m => by simp
  | x :: r, m => by
    rw [List.foldl_cons, foldl_max_pos r]
    simp only [List.mem_cons, exists_eq_or_imp]
    have : 0 < max m x ↔ 0 < m ∨ 0 < x := by omega
    rw [this, or_assoc]
theorem sum_zero : ∀ (l : List Int), (∀ x ∈ l, 0 ≤ x) → 0 ≤ l.sum ∧ (0 < l.sum ↔ ∃ x ∈ l, 0 < x)
  | [], _ => by simp
  | x :: r, h => by
    have h1 := sum_zero r (fun y hy => h y (List.mem_cons_of_mem _ hy))
    have h2 := h x (List.mem_cons_self)
    simp only [List.sum_cons, List.mem_cons, exists_eq_or_imp, ← h1.2]
    omega
/-- What is open still, once what wants nothing more is struck. -/
theorem pop (x : Tok) (b : List Fun) (nx : List Int → Option Int) (i : Int) (hi : 0 < i) : ∀ (k : Nat) (o : List Int) (N : Nat), o.length = k → k < N → k ≤ 1000 → (∀ y ∈ o, 0 ≤ y ∧ y ≤ 3) →
    (o.sum = 0 ∧ again (wandererref_CheckExpr_b132 i x b nx) N o = some 4) ∨ (∃ p q, (∀ y ∈ p, 0 ≤ y ∧ y ≤ 3) ∧ 0 < q ∧ q ≤ 3 ∧ p.sum + q = o.sum ∧ p.length + 1 ≤ o.length ∧ again (wandererref_CheckExpr_b132 i x b nx) N o = wandererref_CheckExpr_j131 x b nx (p ++ [q - 1]))
  | 0, o, N + 1, h, hN, hk, ho => by
    obtain rfl := List.eq_nil_of_length_eq_zero h
    refine .inl ⟨rfl, ?_⟩
    show wandererref_CheckExpr_b132 i x b nx [] _ = _
    unfold wandererref_CheckExpr_b132 wandererref_CheckExpr_j130
    simp [hi]
  | k + 1, o, N + 1, h, hN, hk, ho => by
    obtain ⟨p, q, rfl⟩ : ∃ p q, o = p ++ [q] := ⟨o.dropLast, o.getLast (by intro e; simp [e] at h), (List.dropLast_concat_getLast _).symm⟩
    have hl : p.length = k := by simpa using h
    have hp : ∀ y ∈ p, 0 ≤ y ∧ y ≤ 3 := fun y hy => ho y (by simp [hy])
    have hq := ho q (by simp)
    have e1 : (((p ++ [q]).length : Int)) - 1 = (p.length : Int) := by simp
    have e2 : idx (p ++ [q]) (p.length : Int) = some q := by rw [idx_lt (by simp)]; simp
    show (_ ∧ wandererref_CheckExpr_b132 i x b nx (p ++ [q]) _ = _) ∨ (∃ p' q', _ ∧ _ ∧ _ ∧ _ ∧ _ ∧ wandererref_CheckExpr_b132 i x b nx (p ++ [q]) _ = _)
    unfold wandererref_CheckExpr_b132 wandererref_CheckExpr_j130
    rw [decide_eq_true (show (0 : Int) < ((p ++ [q]).length : Int) by simp), e1, e2, gI]
    simp only [cond_true, bnd]
    by_cases hz : q = 0
    · subst hz
      rw [decide_eq_true rfl]
      simp only [cond_true]
      rw [gI, show sub? (p ++ [0]) 0 (p.length : Int) = some (((p ++ [0]).take p.length).drop 0) from sub_s (Nat.zero_le _) (by simp)]
      simp only [bnd, Int.toNat_natCast, List.take_left]
      rcases pop x b nx i hi k p N hl (by omega) (by omega) hp with ⟨h1, h2⟩ | ⟨p', q', h1, h2, h3, h4, h5, h6⟩
      · exact .inl ⟨by simp [h1], h2⟩
      · exact .inr ⟨p', q', h1, h2, h3, by simp [h4], by simp; omega, h6⟩
    · refine .inr ⟨p, q, hp, by omega, by omega, by simp, by simp, ?_⟩
      rw [decide_eq_false hz]
      simp only [cond_false]
      rw [decide_eq_true hi, decide_eq_false (show ¬ (((p ++ [q]).length : Int) = 0) by simp; omega)]
      simp only [Bool.and_false, cond_false, cond_true]
      rw [gI, gI]
      simp only [Int.toNat_natCast]
      congr 1
      simp

def okP (b : List Fun) : Bool := b.all fun x => decide (0 ≤ x.params) && decide (x.params ≤ 3)
theorem expr1 (a : List Tok) (b : List Fun) (c : Int) : source_Expr a b c = if 24 < a.length then some 2 else if okP b then each (source_Expr_b29 b c) source_Expr_k30 a 1 else some 3 := by
  unfold source_Expr
  by_cases h : 24 < a.length
  · rw [dT (by omega), if_pos h]; rfl
  · rw [dF (by omega), if_neg h]
    simp only [cond_false, Int.toNat_natCast]
    rw [upto_eachI (g := fun i x s nx => bif (decide ((x.params : Int) < 0) || decide ((3 : Int) < x.params)) then source_Expr_j26 b c a (decide ((0 : Int) ≤ i)) else nx ()) b (fun i x s nx hx => by unfold source_Expr_b37; rw [idx_nat, hx]; rfl)]
    rw [eachI_each0 (g := fun x s nx => bif (decide ((x.params : Int) < 0) || decide ((3 : Int) < x.params)) then some 3 else nx ()) (fun i x s nx => by rw [show decide ((0 : Int) ≤ (i : Int)) = true from dT (by omega)]; rfl)]
    have key : ∀ l : List Fun, each (fun x s nx => bif (decide ((x.params : Int) < 0) || decide ((3 : Int) < x.params)) then some 3 else nx ()) (source_Expr_k38 b c a) l () = if okP l then each (source_Expr_b29 b c) source_Expr_k30 a 1 else some 3 := by
      intro l
      induction l with
      | nil => rfl
      | cons x r ih =>
        rw [each_cons, ih]
        by_cases hx : 0 ≤ x.params ∧ x.params ≤ 3
        · rw [dF (show ¬ x.params < 0 by omega), dF (show ¬ 3 < x.params by omega)]
          simp [okP, hx.1, hx.2]
        · have : (decide (x.params < 0) || decide (3 < x.params)) = true := by simp; omega
          rw [this]
          have h2 : okP (x :: r) = false := by simp [okP]; intro h3 h4; omega
          rw [h2]; rfl
    exact key b
theorem expr2 (N : Nat) (a : List Tok) (b : List Fun) (c : Int) : wandererref_CheckExpr N a b c = if 24 < a.length then some 2 else if okP b then eachI (wandererref_CheckExpr_b135 N b c) (wandererref_CheckExpr_k136 N a) 0 a [] else some 3 := by
  unfold wandererref_CheckExpr
  by_cases h : 24 < a.length
  · rw [dT (by omega), if_pos h]; rfl
  · rw [dF (by omega), if_neg h]
    simp only [cond_false]
    have key : ∀ l : List Fun, each wandererref_CheckExpr_b137 (wandererref_CheckExpr_k138 N b c a) l () = if okP l then eachI (wandererref_CheckExpr_b135 N b c) (wandererref_CheckExpr_k136 N a) 0 a [] else some 3 := by
      intro l
      induction l with
      | nil => rfl
      | cons x r ih =>
        rw [each_cons]
        generalize each wandererref_CheckExpr_b137 (wandererref_CheckExpr_k138 N b c a) r = nx at ih ⊢
        unfold wandererref_CheckExpr_b137 wandererref_in
        rw [ih]
        by_cases hx : 0 ≤ x.params ∧ x.params ≤ 3
        · simp [okP, hx.1, hx.2]
        · have : (!(decide (0 ≤ x.params) && decide (x.params ≤ 3))) = true := by simp; omega
          rw [this]
          have h2 : okP (x :: r) = false := by simp [okP]; intro h3 h4; omega
          rw [h2]; rfl
    exact key b
theorem exprLoop (b : List Fun) (c : Int) (hb : okP b = true) (N : Nat) (hN : 100 ≤ N) (a : List Tok) (ha : a.length ≤ 24) : ∀ (l : List Tok) (i : Nat) (w : Int) (o : List Int), i + l.length = a.length → (∀ y ∈ o, 0 ≤ y ∧ y ≤ 3) → o.length ≤ i → w ≤ 1 + 3 * i → ((i = 0 ∧ w = 1 ∧ o = []) ∨ (0 < i ∧ o.sum = w)) →
    ∃ r, each (source_Expr_b29 b c) source_Expr_k30 l w = some r ∧ eachI (wandererref_CheckExpr_b135 N b c) (wandererref_CheckExpr_k136 N a) (i : Int) l o = some r
  | [], i, w, o, h, ho, hoi, hw, hr => by
    show ∃ r, source_Expr_k30 w = some r ∧ wandererref_CheckExpr_k136 N a o = some r
    unfold source_Expr_k30 wandererref_CheckExpr_k136
    simp only [List.length_nil] at h
    rcases hr with ⟨h1, rfl, rfl⟩ | ⟨h1, h2⟩
    · rw [dT (show (a.length : Int) = 0 by omega)]; exact ⟨4, rfl, rfl⟩
    · rw [dF (show ¬ (a.length : Int) = 0 by omega)]
      simp only [cond_false]
      rw [grd_t (Room.mk (by simp; omega) (by simp; omega))]
      unfold slices_Max_int
      rw [dF (show ¬ ((([0] ++ o : List Int).length : Int) < 1) by simp; omega), show idx ([0] ++ o) 0 = some 0 from rfl]
      simp only [cond_false, bnd]
      have := maxL ([0] ++ o) (by simp; omega) ([0] ++ o).length.pred 1 N 0 (by simp; omega) (by simp; omega)
      rw [show ((1 : Nat) : Int) = 1 from rfl] at this
      rw [this]
      show ∃ r, _ ∧ wandererref_CheckExpr_j134 _ = _
      unfold wandererref_CheckExpr_j134
      have e : decide ((0 : Int) < w) = decide (0 < (([0] ++ o).drop 1).foldl max 0) := by
        rw [decide_eq_decide, foldl_max_pos, ← h2, (sum_zero o (fun y hy => (ho y hy).1)).2]
        simp
      rw [e]
      cases decide (0 < (([0] ++ o).drop 1).foldl max 0)
      · exact ⟨0, rfl, rfl⟩
      · exact ⟨4, rfl, rfl⟩
  | x :: r, i, w, o, h, ho, hoi, hw, hr => by
    simp only [List.length_cons] at h
    rw [each_cons, eachI_cons]
    have ih := exprLoop b c hb N hN a ha r (i + 1)
    rw [show (((i + 1 : Nat)) : Int) = (i : Int) + 1 from rfl] at ih
    generalize each (source_Expr_b29 b c) source_Expr_k30 r = nx1 at ih ⊢
    generalize eachI (wandererref_CheckExpr_b135 N b c) (wandererref_CheckExpr_k136 N a) ((i : Int) + 1) r = nx2 at ih ⊢
    unfold source_Expr_b29 wandererref_CheckExpr_b135
    obtain ⟨n, e, h1, h2, h3⟩ := tok_eq x b c
    rw [h1, h2]
    simp only [bnd]
    by_cases he : e = 0
    · subst he
      obtain ⟨h4, h5⟩ := h3 rfl
      have hn : 0 ≤ n ∧ n ≤ 3 := by
        rcases h5 with rfl | rfl | rfl | ⟨y, hy, rfl⟩
        · omega
        · omega
        · omega
        · have := List.all_eq_true.1 hb y hy
          simpa using this
      rw [show decide ((0 : Int) ≠ 0) = false from rfl]
      simp only [cond_false]
      rcases hr with ⟨hi, rfl, rfl⟩ | ⟨hi, hs⟩
      · rw [show decide ((1 : Int) = 0) = false from rfl]
        simp only [cond_false]
        rw [gI, gI]
        obtain ⟨M, rfl⟩ : ∃ M, N = M + 1 := ⟨N - 1, by omega⟩
        show ∃ r, _ ∧ wandererref_CheckExpr_b132 (i : Int) x b nx2 [] (again (wandererref_CheckExpr_b132 (i : Int) x b nx2) M) = _
        generalize again (wandererref_CheckExpr_b132 (i : Int) x b nx2) M = nx3
        unfold wandererref_CheckExpr_b132 wandererref_CheckExpr_j130 wandererref_CheckExpr_j131
        subst hi
        rw [h4]
        simp only [List.length_nil, Int.natCast_zero, show decide ((0 : Int) < 0) = false from rfl, cond_false, bnd, Bool.false_and]
        rw [grd_t (Room.mk (by simp) (by simp))]
        exact ih _ _ (by omega) (by simp; omega) (by simp) (by omega) (.inr ⟨by omega, by simp; omega⟩)
      · rcases pop x b nx2 (i : Int) (by omega) o.length o N rfl (by omega) (by omega) ho with ⟨g1, g2⟩ | ⟨p, q, g1, g2, g3, g4, g5, g6⟩
        · rw [g2, dT (show w = 0 by omega)]; exact ⟨4, rfl, rfl⟩
        · have hp := (sum_zero p (fun y hy => (g1 y hy).1)).1
          rw [g6, dF (show ¬ w = 0 by omega)]
          simp only [cond_false]
          rw [gI, gI]
          unfold wandererref_CheckExpr_j131
          rw [h4]
          simp only [bnd]
          rw [grd_t (Room.mk (by simp; omega) (by simp; omega))]
          refine ih _ _ (by omega) ?_ (by simp; omega) (by omega) (.inr ⟨by omega, by simp; omega⟩)
          intro y hy
          simp only [List.mem_append, List.mem_singleton] at hy
          rcases hy with (hy | rfl) | rfl
          · exact g1 y hy
          · omega
          · exact hn
    · rw [show decide (e ≠ 0) = true from dT he]
      exact ⟨e, rfl, rfl⟩
theorem exprEq (a : List Tok) (b : List Fun) (c : Int) (N : Nat) (hN : 100 ≤ N) : ∃ r, source_Expr a b c = some r ∧ wandererref_CheckExpr N a b c = some r := by
  rw [expr1, expr2]
  by_cases h : 24 < a.length
  · rw [if_pos h, if_pos h]; exact ⟨_, rfl, rfl⟩
  · rw [if_neg h, if_neg h]
    cases hb : okP b with
    | false => exact ⟨3, rfl, rfl⟩
    | true => exact exprLoop b c hb N hN a (by omega) a 0 1 [] (by omega) (by simp) (by simp) (by omega) (.inl ⟨rfl, rfl, rfl⟩)
end Src
end Go.Proofs.YtckocfgmnlhcmaaGreatDoor

namespace Go.Proofs.YtckocfgmnlhcmaaGreatDoor
namespace Src
open Go Go.Proofs Go.LX
theorem neB (x : Bool) : (decide ((if x = true then (1 : Int) else 0) ≠ 0)) = x := by cases x <;> rfl
abbrev tabS : List (Int × Str) := [(1, [78, 69]), (2, [78, 69, 70]), (3, [69]), (4, []), (5, [69]), (6, [69, 65, 66]), (7, [69, 65]), (8, [69])]
def stR (x : GStmt) (c e1 f1 : Int) (n e f a b : Bool) : Int :=
  bif ((((((!n) && decide ((x.n : Int) ≠ 0)) || ((!e) && decide ((0 : Int) < (x.e.length : Int)))) || ((!f) && decide ((0 : Int) < (x.f.length : Int)))) || ((!a) && decide ((0 : Int) < (x.a.length : Int)))) || ((!b) && decide ((0 : Int) < (x.b.length : Int)))) then 4 else
  bif ((decide ((x.kind : Int) = 1) && (decide ((x.n : Int) < 0) || decide ((c : Int) ≤ x.n))) || (decide ((x.kind : Int) = 2) && (decide ((x.n : Int) < 0) || decide ((4 : Int) ≤ x.n)))) then 3 else
  bif e then (bif decide (e1 ≠ 0) then e1 else bif f then f1 else 0) else bif f then f1 else 0
theorem comb : ∀ (n e f a b n0 n1 n2 n3 n4 : Bool), ((((((!true) || (n0 && (!n))) || (n1 && (!e))) || (n2 && (!f))) || (n3 && (!a))) || (n4 && (!b))) = ((((((!n) && n0) || ((!e) && n1)) || ((!f) && n2)) || ((!a) && n3)) || ((!b) && n4)) := by
  intro n e f a b n0 n1 n2 n3 n4
  simp [Bool.and_comm]
theorem docStmt (x : GStmt) (b : List Fun) (c e1 f1 : Int) (N : Nat) (he : wandererref_CheckExpr N x.e b c = some e1) (hf : wandererref_CheckExpr N x.f b c = some f1) {L : Str} (hL : lk x.kind tabS = some L) {n e f a' b' : Bool}
    (h1 : hasB L 78 = n) (h2 : hasB L 69 = e) (h3 : hasB L 70 = f) (h4 : hasB L 65 = a') (h5 : hasB L 66 = b') (F0 : List GStmt → List Fun → Int → Option Int) (a : List GStmt) (nx : Unit → Option Int) :
    wandererref_checkStmts_b35 N F0 a b c x () nx = bif decide (stR x c e1 f1 n e f a' b' ≠ 0) then some (stR x c e1 f1 n e f a' b') else (F0 x.a b c).bind fun y => bif decide (y ≠ 0) then some y else (F0 x.b b c).bind fun z => bif decide (z ≠ 0) then some z else nx () := by
  have t2 : ∀ (y : Int), wandererref_checkStmts_j33 F0 x b c nx y = bif decide (y ≠ 0) then some y else (F0 x.b b c).bind fun z => bif decide (z ≠ 0) then some z else nx () := by
    intro y
    unfold wandererref_checkStmts_j33 wandererref_checkStmts_j34
    by_cases hy : y = 0
    · subst hy; rfl
    · rw [dF hy, dT hy]; rfl
  have t1 : ∀ (y : Int), wandererref_checkStmts_j32 F0 x a b c nx y = bif decide (y ≠ 0) then some y else (F0 x.a b c).bind fun y => bif decide (y ≠ 0) then some y else (F0 x.b b c).bind fun z => bif decide (z ≠ 0) then some z else nx () := by
    intro y
    unfold wandererref_checkStmts_j32
    simp only [t2]
    by_cases hy : y = 0
    · subst hy; rfl
    · rw [dF hy, dT hy]; rfl
  have t0 : ∀ (y : Int), wandererref_checkStmts_j31 N F0 x b c a nx y = wandererref_checkStmts_j32 F0 x a b c nx (bif (decide (y = 0) && f) then f1 else y) := by
    intro y
    unfold wandererref_checkStmts_j31 wandererref_checkStmts_1_70
    rw [show (lk x.kind [(1, [78, 69]), (2, [78, 69, 70]), (3, [69]), (4, []), (5, [69]), (6, [69, 65, 66]), (7, [69, 65]), (8, [69])]) = some L from hL, Option.getD_some, h3, hf]
    cases (decide (y = 0) && f) <;> rfl
  have inEq : wandererref_below x.n c = (!(decide (x.n < 0) || decide (c ≤ x.n))) := by
    unfold wandererref_below; rw [Bool.eq_iff_iff]; simp
  have inEq2 : wandererref_in x.n 0 3 = (!(decide (x.n < 0) || decide (4 ≤ x.n))) := by
    unfold wandererref_in; rw [Bool.eq_iff_iff]; simp; omega
  unfold wandererref_checkStmts_b35 wandererref_checkStmts_1_78 wandererref_checkStmts_1_69 wandererref_checkStmts_1_70 wandererref_checkStmts_1_65 wandererref_checkStmts_1_66
  rw [show (lk x.kind [(1, [78, 69]), (2, [78, 69, 70]), (3, [69]), (4, []), (5, [69]), (6, [69, 65, 66]), (7, [69, 65]), (8, [69])]) = some L from hL]
  simp only [Option.getD_some, Option.isSome_some, h1, h2, h3, h4, h5, comb, inEq, inEq2, Bool.not_not]
  unfold stR
  generalize ((((((!n) && decide ((x.n : Int) ≠ 0)) || ((!e) && decide ((0 : Int) < (x.e.length : Int)))) || ((!f) && decide ((0 : Int) < (x.f.length : Int)))) || ((!a') && decide ((0 : Int) < (x.a.length : Int)))) || ((!b') && decide ((0 : Int) < (x.b.length : Int)))) = C1
  generalize ((decide ((x.kind : Int) = 1) && (decide ((x.n : Int) < 0) || decide ((c : Int) ≤ x.n))) || (decide ((x.kind : Int) = 2) && (decide ((x.n : Int) < 0) || decide ((4 : Int) ≤ x.n)))) = C2
  cases C1 with
  | true => rfl
  | false =>
  cases C2 with
  | true => rfl
  | false =>
  simp only [cond_false, he, bnd, t0, t1]
  cases e with
  | true =>
    by_cases hy : e1 = 0
    · subst hy; cases f <;> rfl
    · simp only [cond_true, dF hy, dT hy, Bool.false_and, cond_false]
  | false => cases f <;> rfl
def StOk (x : GStmt) (b : List Fun) (c : Int) (N : Nat) : Prop := ∃ r, source_stmt x b c = some r ∧ ∀ (F0 : List GStmt → List Fun → Int → Option Int) (a : List GStmt) (nx : Unit → Option Int), wandererref_checkStmts_b35 N F0 a b c x () nx =
    bif decide (r ≠ 0) then some r else (F0 x.a b c).bind fun y => bif decide (y ≠ 0) then some y else (F0 x.b b c).bind fun z => bif decide (z ≠ 0) then some z else nx ()
theorem stmtEq (x : GStmt) (b : List Fun) (c : Int) (N : Nat) (hN : 100 ≤ N) : StOk x b c N := by
  obtain ⟨e1, h1, h2⟩ := exprEq x.e b c N hN
  obtain ⟨f1, h3, h4⟩ := exprEq x.f b c N hN
  have hj : ∀ (n e f a' b' : Bool), source_stmt_j2 x b c n e f a' b' = some (stR x c e1 f1 n e f a' b') := by
    intro n e f a' b'
    unfold source_stmt_j2 source_stmt_j3 stR
    rw [h1, h3]
    generalize ((((((!n) && decide ((x.n : Int) ≠ 0)) || ((!e) && decide ((0 : Int) < (x.e.length : Int)))) || ((!f) && decide ((0 : Int) < (x.f.length : Int)))) || ((!a') && decide ((0 : Int) < (x.a.length : Int)))) || ((!b') && decide ((0 : Int) < (x.b.length : Int)))) = C1
    generalize ((decide ((x.kind : Int) = 1) && (decide ((x.n : Int) < 0) || decide ((c : Int) ≤ x.n))) || (decide ((x.kind : Int) = 2) && (decide ((x.n : Int) < 0) || decide ((4 : Int) ≤ x.n)))) = C2
    simp only [bnd]
    cases C1 with
    | true => rfl
    | false =>
    cases C2 with
    | true => rfl
    | false =>
    cases e with
    | true =>
      simp only [cond_false, cond_true]
      cases decide (e1 ≠ 0) <;> cases f <;> rfl
    | false => cases f <;> rfl
  have done : ∀ (L : Str) (n e f a' b' : Bool), lk x.kind tabS = some L → hasB L 78 = n → hasB L 69 = e → hasB L 70 = f → hasB L 65 = a' → hasB L 66 = b' → source_stmt x b c = source_stmt_j2 x b c n e f a' b' → StOk x b c N :=
    fun L n e f a' b' g0 g1 g2 g3 g4 g5 g6 => ⟨stR x c e1 f1 n e f a' b', g6.trans (hj n e f a' b'), docStmt x b c e1 f1 N h2 h4 g0 g1 g2 g3 g4 g5⟩
  by_cases k1 : x.kind = 1
  · exact done [78, 69] true true false false false (by rw [k1]; rfl) (by decide) (by decide) (by decide) (by decide) (by decide) (by unfold source_stmt; rw [k1]; rfl)
  by_cases k2 : x.kind = 2
  · exact done [78, 69, 70] true true true false false (by rw [k2]; rfl) (by decide) (by decide) (by decide) (by decide) (by decide) (by unfold source_stmt; rw [k2]; rfl)
  by_cases k3 : x.kind = 3
  · exact done [69] false true false false false (by rw [k3]; rfl) (by decide) (by decide) (by decide) (by decide) (by decide) (by unfold source_stmt source_stmt_j4; rw [k3]; rfl)
  by_cases k4 : x.kind = 4
  · exact done [] false false false false false (by rw [k4]; rfl) (by decide) (by decide) (by decide) (by decide) (by decide) (by unfold source_stmt source_stmt_j4; rw [k4]; rfl)
  by_cases k5 : x.kind = 5
  · exact done [69] false true false false false (by rw [k5]; rfl) (by decide) (by decide) (by decide) (by decide) (by decide) (by unfold source_stmt source_stmt_j4; rw [k5]; rfl)
  by_cases k6 : x.kind = 6
  · exact done [69, 65, 66] false true false true true (by rw [k6]; rfl) (by decide) (by decide) (by decide) (by decide) (by decide) (by unfold source_stmt source_stmt_j4; rw [k6]; rfl)
  by_cases k7 : x.kind = 7
  · exact done [69, 65] false true false true false (by rw [k7]; rfl) (by decide) (by decide) (by decide) (by decide) (by decide) (by unfold source_stmt source_stmt_j4; rw [k7]; rfl)
  by_cases k8 : x.kind = 8
  · exact done [69] false true false false false (by rw [k8]; rfl) (by decide) (by decide) (by decide) (by decide) (by decide) (by unfold source_stmt source_stmt_j4; rw [k8]; rfl)
  refine ⟨4, ?_, fun F0 a nx => ?_⟩
  · unfold source_stmt source_stmt_j4; rw [dF k1, dF k2, dF k3, dF k4, dF k5, dF k6, dF k7, dF k8]; rfl
  · unfold wandererref_checkStmts_b35
    rw [show lk x.kind ([(1, [78, 69]), (2, [78, 69, 70]), (3, [69]), (4, []), (5, [69]), (6, [69, 65, 66]), (7, [69, 65]), (8, [69])] : List (Int × Str)) = none by simp [lk, k1, k2, k3, k4, k5, k6, k7, k8]]
    rfl

theorem sz_a (x : GStmt) : SizeOf.sizeOf x.a < SizeOf.sizeOf x := by cases x; simp; omega
theorem sz_b (x : GStmt) : SizeOf.sizeOf x.b < SizeOf.sizeOf x := by cases x; simp; omega
theorem stmtsEq (b : List Fun) (c : Int) : ∀ (d : Nat) (l : List GStmt) (N : Nat), SizeOf.sizeOf l < d → d + 100 ≤ N → ∃ r, source_stmts N l b c = some r ∧ wandererref_checkStmts N l b c = some r
  | 0, _, _, h, _ => absurd h (Nat.not_lt_zero _)
  | d + 1, l, 0, h, hN => by omega
  | d + 1, l, N + 1, h, hN => by
    have ih := fun l' (h' : SizeOf.sizeOf l' < d) => stmtsEq b c d l' N h' (by omega)
    show ∃ r, source_stmts_r (source_stmts N) l b c = some r ∧ wandererref_checkStmts_r N (wandererref_checkStmts N) l b c = some r
    unfold source_stmts_r wandererref_checkStmts_r
    generalize hl0 : l = l0
    have : ∀ (k : List GStmt), SizeOf.sizeOf k ≤ d → ∃ r, each (source_stmts_b3 (source_stmts N) b c l0) source_stmts_k4 k () = some r ∧ each (wandererref_checkStmts_b35 N (wandererref_checkStmts N) l0 b c) wandererref_checkStmts_k36 k () = some r := by
      intro k
      induction k with
      | nil => intro _; exact ⟨0, rfl, rfl⟩
      | cons x k ihk =>
        intro hk
        simp at hk
        obtain ⟨r, h1, h2⟩ := ihk (by omega)
        have ha := sz_a x
        have hb := sz_b x
        obtain ⟨s, g1, g2⟩ := stmtEq x b c N (by omega)
        obtain ⟨u, g3, g4⟩ := ih x.a (by omega)
        obtain ⟨v, g5, g6⟩ := ih x.b (by omega)
        rw [each_cons, each_cons, g2]
        generalize each (source_stmts_b3 (source_stmts N) b c l0) source_stmts_k4 k = nx at h1 ⊢
        generalize each (wandererref_checkStmts_b35 N (wandererref_checkStmts N) l0 b c) wandererref_checkStmts_k36 k = nx2 at h2 ⊢
        unfold source_stmts_b3
        rw [g1, g3, g4, g5, g6]
        simp only [bnd]
        cases decide (s ≠ 0) with
        | true => exact ⟨s, rfl, rfl⟩
        | false =>
        cases decide (u ≠ 0) with
        | true => exact ⟨u, rfl, rfl⟩
        | false =>
        cases decide (v ≠ 0) with
        | true => exact ⟨v, rfl, rfl⟩
        | false => exact ⟨r, h1, h2⟩
    subst hl0
    exact this l (by omega)
-- how many statements
theorem countEq : ∀ (k : Nat) (l : List GStmt) (N : Nat), k < N → k ≤ 4 → ∃ r, source_count N l (5 - (k : Int)) = some r ∧ wandererref_sized N l (k : Int) = some r ∧ 0 ≤ r.1 ∧ r.1 ≤ 30
  | 0, l, N + 1, h, hk => ⟨(0, false), rfl, rfl, by decide, by decide⟩
  | k + 1, l, N + 1, h, hk => by
    have ih := fun l' => countEq k l' N (by omega) (by omega)
    show ∃ r, source_count_r (source_count N) l (5 - ((k + 1 : Nat) : Int)) = some r ∧ wandererref_sized_r (wandererref_sized N) l ((k + 1 : Nat) : Int) = some r ∧ _
    unfold source_count_r wandererref_sized_r
    rw [dF (by omega), dF (by omega)]
    simp only [cond_false]
    generalize hl0 : l = l0
    have : ∀ (m : List GStmt) (n : Int), 0 ≤ n → n ≤ 30 → ∃ r, each (source_count_b27 (source_count N) l0 (5 - ((k + 1 : Nat) : Int))) source_count_k28 m n = some r ∧ each (wandererref_sized_b123 (wandererref_sized N) ((k + 1 : Nat) : Int) l0) wandererref_sized_k124 m n = some r ∧ 0 ≤ r.1 ∧ r.1 ≤ 30 := by
      intro m
      induction m with
      | nil => intro n h1 h2; exact ⟨(n, true), rfl, rfl, h1, h2⟩
      | cons x m ihm =>
        intro n h1 h2
        rw [each_cons, each_cons]
        generalize each (source_count_b27 (source_count N) l0 (5 - ((k + 1 : Nat) : Int))) source_count_k28 m = nx at ihm ⊢
        generalize each (wandererref_sized_b123 (wandererref_sized N) ((k + 1 : Nat) : Int) l0) wandererref_sized_k124 m = nx2 at ihm ⊢
        obtain ⟨ra, a1, a2, a3, a4⟩ := ih x.a
        obtain ⟨rb, b1, b2, b3, b4⟩ := ih x.b
        have e1 : (5 - ((k + 1 : Nat) : Int)) + 1 = 5 - (k : Int) := by omega
        have e2 : ((k + 1 : Nat) : Int) - 1 = (k : Int) := by omega
        unfold source_count_b27 wandererref_sized_b123
        rw [gI (x := n + 1), gI (x := n + 1)]
        have hup : ∀ y, each (wandererref_sized_b121 (wandererref_sized N) ((k + 1 : Nat) : Int)) (wandererref_sized_k122 nx2) [x.a, x.b] y =
          wandererref_sized_b121 (wandererref_sized N) ((k + 1 : Nat) : Int) x.a y (wandererref_sized_b121 (wandererref_sized N) ((k + 1 : Nat) : Int) x.b · (wandererref_sized_k122 nx2)) := fun _ => rfl
        rw [hup]
        have hB : ∀ (p : List GStmt) (rp : Int × Bool) y nx3, wandererref_sized N p (k : Int) = some rp → 0 ≤ rp.1 → rp.1 ≤ 30 → 0 ≤ y → y ≤ 100 → wandererref_sized_b121 (wandererref_sized N) ((k + 1 : Nat) : Int) p y nx3 =
            if p.length = 0 then nx3 y else bif ((!rp.2) || decide ((30 : Int) < y + rp.1)) then some (0, false) else nx3 (y + rp.1) := by
          intro p rp y nx3 hp h3 h4 h5 h6
          unfold wandererref_sized_b121 wandererref_sized_j120
          by_cases h0 : p.length = 0
          · rw [dF (by omega), if_pos h0]; rfl
          · rw [dT (by omega), if_neg h0, gI, e2, hp]
            simp only [cond_true, bnd]
            rw [gI]
        have hB0 : ∀ y nx3, 0 ≤ y → y ≤ 100 → wandererref_sized_b121 (wandererref_sized N) ((k + 1 : Nat) : Int) x.a y nx3 = if x.a.length = 0 then nx3 y else bif ((!ra.2) || decide ((30 : Int) < y + ra.1)) then some (0, false) else nx3 (y + ra.1) :=
          fun y nx3 h5 h6 => hB x.a ra y nx3 a2 a3 a4 h5 h6
        rw [hB0 _ _ (by omega) (by omega)]
        have hB1 : ∀ y nx3, 0 ≤ y → y ≤ 100 → wandererref_sized_b121 (wandererref_sized N) ((k + 1 : Nat) : Int) x.b y nx3 = if x.b.length = 0 then nx3 y else bif ((!rb.2) || decide ((30 : Int) < y + rb.1)) then some (0, false) else nx3 (y + rb.1) :=
          fun y nx3 h5 h6 => hB x.b rb y nx3 b2 b3 b4 h5 h6
        have hA : ∀ y, 0 ≤ y → y ≤ 100 → source_count_j25 (source_count N) x (5 - ((k + 1 : Nat) : Int)) nx y = if x.b.length = 0 then nx y else bif ((!rb.2) || decide ((30 : Int) < y + rb.1)) then some (0, false) else nx (y + rb.1) := by
          intro y h3 h4
          unfold source_count_j25 source_count_j26
          by_cases h0 : x.b.length = 0
          · rw [dT (by omega), if_pos h0]; rfl
          · rw [dF (by omega), if_neg h0, gI, e1, b1]
            simp only [cond_false, bnd]
            rw [gI]
        -- the end
        have fin : ∀ y, 0 ≤ y → y ≤ 30 → ∃ r, nx y = some r ∧ wandererref_sized_k122 nx2 y = some r ∧ 0 ≤ r.1 ∧ r.1 ≤ 30 := by
          intro y h3 h4
          unfold wandererref_sized_k122
          rw [dF (by omega)]
          exact ihm y h3 h4
        have zero : ∀ r : Int × Bool, r = (0, false) → 0 ≤ r.1 ∧ r.1 ≤ 30 := by rintro r rfl; exact ⟨by decide, by decide⟩
        have tail : ∀ y, 0 ≤ y → y ≤ 30 → ∃ r, (if x.b.length = 0 then nx y else bif ((!rb.2) || decide ((30 : Int) < y + rb.1)) then some (0, false) else nx (y + rb.1)) = some r ∧
            (if x.b.length = 0 then wandererref_sized_k122 nx2 y else bif ((!rb.2) || decide ((30 : Int) < y + rb.1)) then some (0, false) else wandererref_sized_k122 nx2 (y + rb.1)) = some r ∧ 0 ≤ r.1 ∧ r.1 ≤ 30 := by
          intro y h3 h4
          by_cases h0 : x.b.length = 0
          · rw [if_pos h0, if_pos h0]; exact fin y h3 h4
          · rw [if_neg h0, if_neg h0]
            cases hc : ((!rb.2) || decide ((30 : Int) < y + rb.1)) with
            | true => exact ⟨(0, false), rfl, rfl, zero _ rfl⟩
            | false =>
              simp only [Bool.or_eq_false_iff, decide_eq_false_iff_not] at hc
              exact fin _ (by omega) (by omega)
        by_cases h30 : 30 < n + 1
        · rw [dT h30]
          simp only [cond_true]
          have big : ∀ y, 30 < y → y ≤ 100 → wandererref_sized_b121 (wandererref_sized N) ((k + 1 : Nat) : Int) x.b y (wandererref_sized_k122 nx2) = some (0, false) := by
            intro y h3 h4
            rw [hB1 y _ (by omega) h4]
            by_cases h0 : x.b.length = 0
            · rw [if_pos h0]; unfold wandererref_sized_k122; rw [dT h3]; rfl
            · rw [if_neg h0, show decide ((30 : Int) < y + rb.1) = true from dT (by omega)]; simp
          refine ⟨(0, false), rfl, ?_, zero _ rfl⟩
          by_cases h0 : x.a.length = 0
          · rw [if_pos h0]; exact big _ h30 (by omega)
          · rw [if_neg h0, show decide ((30 : Int) < n + 1 + ra.1) = true from dT (by omega)]; simp
        · rw [dF h30]
          simp only [cond_false]
          by_cases h0 : x.a.length = 0
          · rw [dT (show (x.a.length : Int) = 0 by omega), if_pos h0]
            simp only [cond_true]
            rw [hA _ (by omega) (by omega), hB1 _ _ (by omega) (by omega)]
            exact tail _ (by omega) (by omega)
          · rw [dF (show ¬ (x.a.length : Int) = 0 by omega), if_neg h0]
            simp only [cond_false]
            rw [gI, e1, a1]
            simp only [bnd]
            rw [gI]
            cases hc : ((!ra.2) || decide ((30 : Int) < n + 1 + ra.1)) with
            | true => exact ⟨(0, false), rfl, rfl, zero _ rfl⟩
            | false =>
              simp only [Bool.or_eq_false_iff, decide_eq_false_iff_not] at hc
              simp only [cond_false]
              rw [hA _ (by omega) (by omega), hB1 _ _ (by omega) (by omega)]
              exact tail _ (by omega) (by omega)
    subst hl0
    exact this l 0 (by omega) (by omega)
end Src
end Go.Proofs.YtckocfgmnlhcmaaGreatDoor

namespace Go.Proofs.YtckocfgmnlhcmaaGreatDoor
namespace Src
open Go Go.Proofs Go.LX
theorem szB (a : List Fun) : ∃ B : Nat, ∀ x ∈ a, SizeOf.sizeOf x.body ≤ B := by
  induction a with
  | nil => exact ⟨0, fun x h => by cases h⟩
  | cons y r ih =>
    obtain ⟨B, hB⟩ := ih
    refine ⟨B + SizeOf.sizeOf y.body, fun x hx => ?_⟩
    rcases List.mem_cons.1 hx with rfl | h
    · omega
    · have := hB x h; omega
theorem CheckEq (a : List Fun) (N : Nat) (hN : ∀ x ∈ a, SizeOf.sizeOf x.body + 200 < N) (hN0 : 200 < N) : ∃ r, source_Check N a = some r ∧ wandererref_CheckSource N a = some r := by
  unfold source_Check wandererref_CheckSource
  have e0 : (!(wandererref_in (a.length : Int) 1 4)) = (decide ((a.length : Int) = 0) || decide (4 < (a.length : Int))) := by
    have hn : 0 ≤ (a.length : Int) := by omega
    unfold wandererref_in
    generalize (a.length : Int) = n at hn ⊢
    rw [Bool.eq_iff_iff]; simp; omega
  rw [e0]
  cases (decide ((a.length : Int) = 0) || decide (4 < (a.length : Int))) with
  | true => exact ⟨2, rfl, rfl⟩
  | false =>
  simp only [cond_false]
  have last : ∃ r, source_Check_k8 N a () = some r ∧ wandererref_CheckSource_k8 N a () = some r := by
    unfold source_Check_k8 wandererref_CheckSource_k8
    have key : ∀ (k : List Fun), (∀ x ∈ k, SizeOf.sizeOf x.body + 200 < N) → ∃ r, each (source_Check_b5 N a) source_Check_k6 k () = some r ∧ each (wandererref_CheckSource_b5 N a) wandererref_CheckSource_k6 k () = some r := by
      intro k
      induction k with
      | nil => intro _; exact ⟨0, rfl, rfl⟩
      | cons x k ihk =>
        intro hk
        obtain ⟨r, h1, h2⟩ := ihk (fun y hy => hk y (List.mem_cons_of_mem _ hy))
        rw [each_cons, each_cons]
        generalize each (source_Check_b5 N a) source_Check_k6 k = nx at h1 ⊢
        generalize each (wandererref_CheckSource_b5 N a) wandererref_CheckSource_k6 k = nx2 at h2 ⊢
        have hx := hk x List.mem_cons_self
        obtain ⟨u, g1, g2, _⟩ := countEq 4 x.body N (by omega) (by omega)
        obtain ⟨v, g3, g4⟩ := stmtsEq a x.locals (SizeOf.sizeOf x.body + 1) x.body N (by omega) (by omega)
        rw [show (5 - ((4 : Nat) : Int)) = 1 from rfl] at g1
        rw [show ((4 : Nat) : Int) = 4 from rfl] at g2
        unfold source_Check_b5 wandererref_CheckSource_b5
        simp only [g1, g2, g3, g4, bnd]
        cases u.2 with
        | false => exact ⟨2, rfl, rfl⟩
        | true =>
        cases decide (v ≠ 0) with
        | true => exact ⟨v, rfl, rfl⟩
        | false => exact ⟨r, h1, h2⟩
    exact key a hN
  obtain ⟨r, h1, h2⟩ := last
  generalize source_Check_k8 N a = k1 at h1 ⊢
  generalize wandererref_CheckSource_k8 N a = k2 at h2 ⊢
  have key : ∀ (k : List Fun) (i : Int), ∃ r, eachI source_Check_b7 k1 i k () = some r ∧ eachI wandererref_CheckSource_b7 k2 i k () = some r := by
    intro k
    induction k with
    | nil => intro i; exact ⟨r, h1, h2⟩
    | cons x k ihk =>
      intro i
      obtain ⟨s, g1, g2⟩ := ihk (i + 1)
      rw [eachI_cons, eachI_cons]
      generalize eachI source_Check_b7 k1 (i + 1) k = nx at g1 ⊢
      generalize eachI wandererref_CheckSource_b7 k2 (i + 1) k = nx2 at g2 ⊢
      unfold source_Check_b7 wandererref_CheckSource_b7 wandererref_in
      have e : (((!(decide ((0 : Int) ≤ x.params) && decide (x.params ≤ 3))) || (!(decide (x.params ≤ x.locals) && decide (x.locals ≤ 6)))) || (decide (i = 0) && decide (x.params ≠ 0))) = ((((decide ((x.params : Int) < 0) || decide ((3 : Int) < x.params)) || decide ((x.locals : Int) < x.params)) || decide ((6 : Int) < x.locals)) || (decide ((i : Int) = 0) && decide ((0 : Int) < x.params))) := by
        rw [Bool.eq_iff_iff]; simp; omega
      rw [e]
      cases ((((decide ((x.params : Int) < 0) || decide ((3 : Int) < x.params)) || decide ((x.locals : Int) < x.params)) || decide ((6 : Int) < x.locals)) || (decide ((i : Int) = 0) && decide ((0 : Int) < x.params))) with
      | true => exact ⟨3, rfl, rfl⟩
      | false => exact ⟨s, g1, g2⟩
  exact key a 0
end Src
end Go.Proofs.YtckocfgmnlhcmaaGreatDoor

namespace Go.Proofs.YtckocfgmnlhcmaaGreatDoor
open Go Go.Proofs Go.LX
def Reg (R x : Int) : Prop := 0 ≤ x ∧ x < R
def InsG (ps : List Int) (R L : Int) (c : Ins) : Prop :=
  (c.op = 1 ∧ Reg R c.a ∧ (-1000000000 ≤ c.b ∧ c.b ≤ 1000000000) ∧ c.c = 0 ∧ c.args = []) ∨
  (c.op = 2 ∧ Reg R c.a ∧ Reg R c.b ∧ c.c = 0 ∧ c.args = []) ∨
  (c.op = 3 ∧ Reg R c.a ∧ Reg R c.b ∧ Reg R c.c ∧ ∃ n, c.args = [n] ∧ 1 ≤ n ∧ n ≤ 5) ∨
  ((c.op = 4 ∨ c.op = 6) ∧ Reg R c.a ∧ Reg R c.b ∧ (0 ≤ c.c ∧ c.c < 4) ∧ c.args = []) ∨
  (c.op = 5 ∧ Reg R c.a ∧ (1 ≤ c.b ∧ c.b ≤ 4) ∧ c.c = 0 ∧ c.args = []) ∨
  (c.op = 7 ∧ Reg R c.a ∧ (0 ≤ c.b ∧ c.b < ps.length) ∧ c.c = 0 ∧ (c.args.length : Int) = callN ps c.b ∧ ∀ x ∈ c.args, Reg R x) ∨
  ((c.op = 8 ∨ c.op = 9 ∨ c.op = 11) ∧ Reg R c.a ∧ c.b = 0 ∧ c.c = 0 ∧ c.args = []) ∨
  (c.op = 10 ∧ c.a = 0 ∧ c.b = 0 ∧ c.c = 0 ∧ c.args = []) ∨
  (c.op = 12 ∧ c.a = 0 ∧ (0 ≤ c.b ∧ c.b ≤ L) ∧ c.c = 0 ∧ c.args = []) ∨
  (c.op = 13 ∧ Reg R c.a ∧ (0 ≤ c.b ∧ c.b ≤ L) ∧ c.c = 0 ∧ c.args = [])
theorem Reg.up {R R' x : Int} (h : Reg R x) (hR : R ≤ R') : Reg R' x := ⟨h.1, by have := h.2; omega⟩
theorem InsG.up {ps : List Int} {R R' L L' : Int} {c : Ins} (h : InsG ps R L c) (hR : R ≤ R') (hL : L ≤ L') : InsG ps R' L' c := by
  rcases h with ⟨h1, h2, h3, h4, h5⟩ | ⟨h1, h2, h3, h4, h5⟩ | ⟨h1, h2, h3, h4, h5⟩ | ⟨h1, h2, h3, h4, h5⟩ | ⟨h1, h2, h3, h4, h5⟩ | ⟨h1, h2, h3, h4, h5, h6⟩ | ⟨h1, h2, h3, h4, h5⟩ | h | ⟨h1, h2, h3, h4, h5⟩ | ⟨h1, h2, h3, h4, h5⟩
  · exact .inl ⟨h1, h2.up hR, h3, h4, h5⟩
  · exact .inr (.inl ⟨h1, h2.up hR, h3.up hR, h4, h5⟩)
  · exact .inr (.inr (.inl ⟨h1, h2.up hR, h3.up hR, h4.up hR, h5⟩))
  · exact .inr (.inr (.inr (.inl ⟨h1, h2.up hR, h3.up hR, h4, h5⟩)))
  · exact .inr (.inr (.inr (.inr (.inl ⟨h1, h2.up hR, h3, h4, h5⟩))))
  · exact .inr (.inr (.inr (.inr (.inr (.inl ⟨h1, h2.up hR, h3, h4, h5, fun x hx => (h6 x hx).up hR⟩)))))
  · exact .inr (.inr (.inr (.inr (.inr (.inr (.inl ⟨h1, h2.up hR, h3, h4, h5⟩))))))
  · exact .inr (.inr (.inr (.inr (.inr (.inr (.inr (.inl h)))))))
  · exact .inr (.inr (.inr (.inr (.inr (.inr (.inr (.inr (.inl ⟨h1, h2, ⟨h3.1, by omega⟩, h4, h5⟩))))))))
  · exact .inr (.inr (.inr (.inr (.inr (.inr (.inr (.inr (.inr ⟨h1, h2.up hR, ⟨h3.1, by omega⟩, h4, h5⟩))))))))
/-- The maker's code so far is right, but that jumps may go to its end. -/
structure MOk (f : List Fun) (M : Maker) : Prop where
  hf : M.f = f
  ins : ∀ c ∈ M.code, InsG (f.map (·.params)) M.regs M.code.length c
  regs : 0 ≤ M.regs
theorem MOk.need {f : List Fun} {M : Maker} (h : MOk f M) (n : Int) : MOk f (code_maker_need M n) :=
  ⟨h.hf, fun c hc => (h.ins c hc).up (by show M.regs ≤ max M.regs n; omega) (Int.le_refl _), by show 0 ≤ max M.regs n; have := h.regs; omega⟩
theorem put_ok {f : List Fun} {M : Maker} (h : MOk f M) {c : Ins} (hc : InsG (f.map (·.params)) M.regs (M.code.length + 1) c) (hl : M.code.length ≤ 5000) :
    code_maker_put M c = some ((M.code.length : Int), ⟨M.f, M.code ++ [c], M.regs⟩) ∧ MOk f ⟨M.f, M.code ++ [c], M.regs⟩ := by
  constructor
  · unfold code_maker_put
    rw [grd_t ⟨by simp only [List.length_singleton]; omega, by simp only [List.length_singleton]; omega⟩, gI (by simp only [List.length_append, List.length_singleton]; omega) (by simp only [List.length_append, List.length_singleton]; omega)]
    simp
  · refine ⟨h.hf, fun d hd => ?_, h.regs⟩
    simp only [List.length_append, List.length_singleton, Int.natCast_add, Int.natCast_one]
    rcases List.mem_append.1 hd with hd | hd
    · exact (h.ins d hd).up (Int.le_refl _) (by omega)
    · rw [List.mem_singleton.1 hd]; exact hc
theorem sub_tail (e rest : List Tok) (k : Nat) (hk : k ≤ e.length) : sub? (e ++ rest) (k : Int) ((e ++ rest).length : Int) = some (e.drop k ++ rest) := by
  rw [sub_s (by simp; omega) (Nat.le_refl _), List.take_length, List.drop_append_of_le_length hk]
theorem sub_tail0 (t : Tok) (r rest : List Tok) : sub? (t :: r ++ rest) 1 ((t :: r ++ rest).length : Int) = some (r ++ rest) := sub_tail (t :: r) rest 1 (by simp)
theorem sub_tail1 (t : Tok) (r rest : List Tok) (k : Nat) (hk : k ≤ r.length) : sub? (t :: r ++ rest) (1 + (k : Int)) ((t :: r ++ rest).length : Int) = some (r.drop k ++ rest) := by
  have := sub_tail (t :: r) rest (k + 1) (by simpa using hk)
  rw [show ((k + 1 : Nat) : Int) = 1 + (k : Int) by omega] at this
  exact this
theorem wants_pos {ps : List Int} {w : Int} {e : List Tok} (h : wants ps w e) (hw : 1 ≤ w) : ∃ t r, e = t :: r ∧ wants ps (w + (asksT ps t - 1)) r := by
  cases e with
  | nil => have : w = 0 := h; omega
  | cons t r => exact ⟨t, r, rfl, h.2⟩
structure ExprR (ps : List Int) (f : List Fun) (w b : Int) (e : List Tok) (M : Maker) (k : Nat) (M' : Maker) : Prop where
  hk : 1 ≤ k ∧ k ≤ e.length
  rest : wants ps (w - 1) (e.drop k)
  ok : MOk f M'
  new : ∃ new, M'.code = M.code ++ new ∧ new.length = k
  up : M.regs ≤ M'.regs
  most : M'.regs ≤ max M.regs (b + k)
  has : b + 1 ≤ M'.regs
theorem call_loop {f : List Fun} {ps : List Int} (hps : ps = f.map (·.params)) (c b : Int) (hb : 0 ≤ b) (hb2 : b ≤ 100) (e rest : List Tok) (w : Int) (hw : 1 ≤ w) (t : Tok) (x : Fun) (q : Nat) (hq : x.params = q) (hq3 : q ≤ 3) (ht : 0 ≤ t.n ∧ t.n < ps.length) (hc : callN ps t.n = q) (d : Nat) (N0 : Nat)
    (IH : ∀ (e' : List Tok) (w' b' : Int) (M : Maker), e'.length < d → e'.length + 6 ≤ N0 → 1 ≤ w' → wants ps w' e' → (∀ t ∈ e', TokOk ps c t) → MOk f M → 0 ≤ b' → b' + e'.length ≤ 100 → c ≤ M.regs → M.code.length + e'.length ≤ 4000 → ∃ (k : Nat) (M' : Maker), code_maker_expr N0 M (e' ++ rest) b' = some ((k : Int), M') ∧ ExprR ps f w' b' e' M k M')
    (hed : e.length ≤ d) (heN : e.length + 5 ≤ N0) (htok : ∀ t ∈ e, TokOk ps c t) (hbe : b + e.length ≤ 100) :
    ∀ (j m : Nat) (N : Nat) (args : List Int) (M : Maker), j ≤ q → q - j < N → m ≤ e.length → j + 1 ≤ m → wants ps (w - 1 + (q - j)) (e.drop m) → args.length = j → (∀ x ∈ args, Reg M.regs x) → MOk f M → c ≤ M.regs → b + 1 ≤ M.regs → M.code.length + (e.length - m) ≤ 4000 →
      ∃ (k : Nat) (M' : Maker), again (code_maker_expr_b4 (code_maker_expr N0) x (e ++ rest) b t) N ((m : Int), args, (j : Int), M.f, M.code, M.regs) = some ((k : Int), M') ∧ m ≤ k ∧ k ≤ e.length ∧ wants ps (w - 1) (e.drop k) ∧ MOk f M' ∧ (∃ new, M'.code = M.code ++ new ∧ new.length = k - m + 1) ∧ M.regs ≤ M'.regs ∧ M'.regs ≤ max M.regs (b + k) := by
  intro j
  generalize hg : q - j = g
  induction g generalizing j with
  | zero =>
    intro m N args M hj hN hm hjm hwa hal har hM hcM hbM hlen
    obtain ⟨N, rfl⟩ : ∃ n, N = n + 1 := ⟨N - 1, by omega⟩
    have : j = q := by omega
    subst this
    show ∃ (k : Nat) (M' : Maker), code_maker_expr_b4 (code_maker_expr N0) x (e ++ rest) b t ((m : Int), args, (j : Int), M.f, M.code, M.regs) _ = some ((k : Int), M') ∧ _
    generalize again (code_maker_expr_b4 (code_maker_expr N0) x (e ++ rest) b t) N = nx
    unfold code_maker_expr_b4
    simp only
    rw [dF (by omega), cond_false]
    have hI : InsG (f.map (·.params)) M.regs (M.code.length + 1) ⟨7, b, t.n, 0, args⟩ := by
      rw [← hps]
      exact .inr (.inr (.inr (.inr (.inr (.inl ⟨rfl, ⟨hb, by show b < _; omega⟩, ht, rfl, by rw [hc]; simp [hal], har⟩)))))
    obtain ⟨p1, p2⟩ := put_ok hM hI (by omega)
    rw [show (⟨M.f, M.code, M.regs⟩ : Maker) = M from rfl, p1, Option.bind_some]
    exact ⟨m, _, rfl, Nat.le_refl _, hm, by simpa using hwa, p2, ⟨[_], rfl, by simp⟩, Int.le_refl _, by show M.regs ≤ _; omega⟩
  | succ g ih =>
    intro m N args M hj hN hm hjm hwa hal har hM hcM hbM hlen
    obtain ⟨N, rfl⟩ : ∃ n, N = n + 1 := ⟨N - 1, by omega⟩
    show ∃ (k : Nat) (M' : Maker), code_maker_expr_b4 (code_maker_expr N0) x (e ++ rest) b t ((m : Int), args, (j : Int), M.f, M.code, M.regs) (again (code_maker_expr_b4 (code_maker_expr N0) x (e ++ rest) b t) N) = some ((k : Int), M') ∧ _
    generalize hnx : again (code_maker_expr_b4 (code_maker_expr N0) x (e ++ rest) b t) N = nx
    unfold code_maker_expr_b4
    simp only
    rw [dT (by omega), cond_true, sub_tail e rest m hm, Option.bind_some, gI (by omega) (by omega)]
    obtain ⟨k1, M1, e1, r1⟩ := IH (e.drop m) (w - 1 + (q - j)) (b + j) M (by simp; omega) (by simp; omega) (by omega) hwa (fun t ht => htok t (List.mem_of_mem_drop ht)) hM (by omega) (by simp; omega) hcM (by simp; omega)
    have hk1 := r1.hk
    simp only [List.length_drop] at hk1
    obtain ⟨new1, n1, n2⟩ := r1.new
    have l1 : M1.code.length = M.code.length + k1 := by rw [n1]; simp [n2]
    rw [show (⟨M.f, M.code, M.regs⟩ : Maker) = M from rfl, e1, Option.bind_some]
    simp only
    rw [gI (by omega) (by omega), gI (by omega) (by omega), grd_t ⟨by simp only [List.length_singleton]; omega, by simp only [List.length_singleton]; omega⟩, gI (by omega) (by omega), ← hnx, show ((m : Int) + (k1 : Int)) = ((m + k1 : Nat) : Int) by omega, show ((j : Int) + 1) = ((j + 1 : Nat) : Int) by omega]
    have hup := r1.up
    have hmost := r1.most
    have hhas := r1.has
    obtain ⟨k, M', e2, g1, g2, g3, g4, ⟨new2, g5, g6⟩, g7, g8⟩ := ih (j + 1) (by omega) (m + k1) N (args ++ [b + j]) M1 (by omega) (by omega) (by omega) (by omega) (by
      have := r1.rest
      rw [List.drop_drop] at this
      rw [show w - 1 + ((q : Int) - ((j + 1 : Nat) : Int)) = w - 1 + (q - j) - 1 by omega]
      exact this) (by simp [hal]) (fun y hy => by
        rcases List.mem_append.1 hy with hy | hy
        · exact (har y hy).up hup
        · rw [List.mem_singleton.1 hy]; exact ⟨by omega, by omega⟩) r1.ok (by omega) (by omega) (by omega)
    refine ⟨k, M', e2, by omega, g2, g3, g4, ⟨new1 ++ new2, by rw [g5, n1]; simp, by rw [List.length_append, n2, g6]; omega⟩, by omega, by omega⟩
theorem expr_ok {f : List Fun} {ps : List Int} (hps : ps = f.map (·.params)) (hbd : ∀ x ∈ f, 0 ≤ x.params ∧ x.params ≤ 3) (hf4 : f.length ≤ 4) (c : Int) (hc6 : c ≤ 6) (rest : List Tok) : ∀ (d : Nat) (e : List Tok) (w b : Int) (M : Maker) (N : Nat), e.length < d → e.length + 6 ≤ N → 1 ≤ w → wants ps w e → (∀ t ∈ e, TokOk ps c t) → MOk f M → 0 ≤ b → b + e.length ≤ 100 → c ≤ M.regs → M.code.length + e.length ≤ 4000 →
    ∃ (k : Nat) (M' : Maker), code_maker_expr N M (e ++ rest) b = some ((k : Int), M') ∧ ExprR ps f w b e M k M'
  | 0, e, w, b, M, N, hd, _, _, _, _, _, _, _, _, _ => absurd hd (Nat.not_lt_zero _)
  | d + 1, e, w, b, M, 0, hd, hN, _, _, _, _, _, _, _, _ => by omega
  | d + 1, e, w, b, M, N + 1, hd, hN, hw, hwa, htok, hM, hb, hbe, hcM, hlen => by
    obtain ⟨t, r, rfl, hwr⟩ := wants_pos hwa hw
    simp only [List.length_cons] at hd hN hbe hlen
    have ht := htok t (by simp)
    have htr : ∀ t ∈ r, TokOk ps c t := fun x hx => htok x (List.mem_cons_of_mem _ hx)
    have hM1 := hM.need (b + 1)
    have hr1 : (code_maker_need M (b + 1)).regs = max M.regs (b + 1) := rfl
    have hc1 : (code_maker_need M (b + 1)).code = M.code := rfl
    have IH := fun (e' : List Tok) (w' b' : Int) (M' : Maker) (h : e'.length < d) (h2 : e'.length + 6 ≤ N) => expr_ok hps hbd hf4 c hc6 rest d e' w' b' M' N h h2
    show ∃ (k : Nat) (M' : Maker), code_maker_expr_r N (code_maker_expr N) M (t :: r ++ rest) b = some ((k : Int), M') ∧ _
    unfold code_maker_expr_r
    rw [gI (by omega) (by omega), show idx (t :: r ++ rest) 0 = some t by simp [idx], Option.bind_some]
    have one : ∀ i : Ins, InsG (f.map (·.params)) (max M.regs (b + 1)) (M.code.length + 1) i → asksT ps t = 0 → ∃ (k : Nat) (M' : Maker), ((code_maker_put (code_maker_need M (b + 1)) i).bind fun y => some ((1 : Int), y.2)) = some ((k : Int), M') ∧ ExprR ps f w b (t :: r) M k M' := by
      intro i hi ha
      obtain ⟨p1, p2⟩ := put_ok hM1 (c := i) hi (by rw [hc1]; omega)
      rw [p1, Option.bind_some]
      refine ⟨1, _, rfl, ⟨by simp, ?_, p2, ⟨[i], rfl, rfl⟩, ?_, ?_, ?_⟩⟩
      · rw [ha] at hwr; rw [show w - 1 = w + (0 - 1) by omega]; exact hwr
      · show M.regs ≤ max M.regs (b + 1); omega
      · show max M.regs (b + 1) ≤ max M.regs (b + (1 : Nat)); omega
      · show b + 1 ≤ max M.regs (b + 1); omega
    have hk2 := ht
    unfold TokOk at hk2
    rcases hk2 with ⟨hk, hn⟩ | ⟨hk, hn⟩ | ⟨hk, hn⟩ | ⟨hk, hn⟩ | ⟨hk, hn⟩ | ⟨hk, hn⟩
    · rw [dT hk, cond_true]
      exact one _ (.inl ⟨rfl, ⟨hb, by show b < _; omega⟩, hn, rfl, rfl⟩) (by simp [asksT, hk])
    · rw [dF (by omega), cond_false, dT hk, cond_true]
      exact one _ (.inr (.inl ⟨rfl, ⟨hb, by show b < _; omega⟩, ⟨hn.1, by show t.n < _; omega⟩, rfl, rfl⟩)) (by simp [asksT, hk])
    · rw [dF (by omega), cond_false, dF (by omega), cond_false, dF (by omega), cond_false, dT hk, cond_true]
      have ha : asksT ps t = 2 := by simp [asksT, hk]
      rw [sub_tail0, Option.bind_some]
      obtain ⟨k1, M1, e1, r1⟩ := IH r (w + 1) b (code_maker_need M (b + 1)) (by omega) (by omega) (by omega) (by rw [ha] at hwr; exact hwr) htr hM1 hb (by omega) (by rw [hr1]; omega) (by rw [hc1]; omega)
      have q1 := r1.hk
      obtain ⟨new1, n1, n1'⟩ := r1.new
      rw [hc1] at n1
      have l1 : M1.code.length = M.code.length + k1 := by rw [n1]; simp [n1']
      have u1 := r1.up; have m1 := r1.most; have h1 := r1.has
      rw [hr1] at u1 m1
      rw [e1, Option.bind_some]
      simp only
      rw [gI (by omega) (by omega), sub_tail1 t r rest k1 (by omega), Option.bind_some, gI (by omega) (by omega)]
      obtain ⟨k2, M2, e2, r2⟩ := IH (r.drop k1) w (b + 1) M1 (by simp; omega) (by simp; omega) hw (by have := r1.rest; rwa [show w + 1 - 1 = w by omega] at this) (fun x hx => htr x (List.mem_of_mem_drop hx)) r1.ok (by omega) (by simp; omega) (by omega) (by simp; omega)
      have q2 := r2.hk
      simp only [List.length_drop] at q2
      obtain ⟨new2, n2, n2'⟩ := r2.new
      have l2 : M2.code.length = M1.code.length + k2 := by rw [n2]; simp [n2']
      have u2 := r2.up; have m2 := r2.most; have h2 := r2.has
      rw [e2, Option.bind_some]
      simp only
      rw [gI (by omega) (by omega), gI (by omega) (by omega)]
      obtain ⟨p1, p2⟩ := put_ok r2.ok (c := ⟨3, b, b, b + 1, [t.n]⟩) (.inr (.inr (.inl ⟨rfl, ⟨hb, by show b < _; omega⟩, ⟨hb, by show b < _; omega⟩, ⟨by show 0 ≤ b + 1; omega, by show b + 1 < _; omega⟩, t.n, rfl, hn⟩))) (by omega)
      rw [p1, Option.bind_some]
      refine ⟨k1 + 1 + k2, _, by simp only [Option.some.injEq, Prod.mk.injEq, and_true]; omega, ⟨by simp only [List.length_cons]; omega, ?_, p2, ⟨new1 ++ new2 ++ [⟨3, b, b, b + 1, [t.n]⟩], by show M2.code ++ [(⟨3, b, b, b + 1, [t.n]⟩ : Ins)] = _; rw [n2, n1]; simp only [List.append_assoc], by simp [n1', n2']; omega⟩, by show M.regs ≤ M2.regs; omega, by show M2.regs ≤ _; omega, by show b + 1 ≤ M2.regs; omega⟩⟩
      have := r2.rest
      rw [List.drop_drop] at this
      rw [show k1 + 1 + k2 = (k1 + k2) + 1 by omega, List.drop_succ_cons]
      exact this
    · rw [dF (by omega), cond_false, dF (by omega), cond_false, dF (by omega), cond_false, dF (by omega), cond_false, dT hk, cond_true]
      have ha : asksT ps t = 1 := by simp [asksT, hk]
      rw [sub_tail0, Option.bind_some]
      obtain ⟨k1, M1, e1, r1⟩ := IH r w b (code_maker_need M (b + 1)) (by omega) (by omega) (by omega) (by rw [ha] at hwr; simpa using hwr) htr hM1 hb (by omega) (by rw [hr1]; omega) (by rw [hc1]; omega)
      have q1 := r1.hk
      obtain ⟨new1, n1, n1'⟩ := r1.new
      rw [hc1] at n1
      have l1 : M1.code.length = M.code.length + k1 := by rw [n1]; simp [n1']
      have u1 := r1.up; have m1 := r1.most; have h1 := r1.has
      rw [hr1] at u1 m1
      rw [e1, Option.bind_some]
      simp only
      rw [gI (by omega) (by omega)]
      obtain ⟨p1, p2⟩ := put_ok r1.ok (c := ⟨4, b, b, t.n, []⟩) (.inr (.inr (.inr (.inl ⟨.inl rfl, ⟨hb, by show b < _; omega⟩, ⟨hb, by show b < _; omega⟩, hn, rfl⟩)))) (by omega)
      rw [p1, Option.bind_some]
      refine ⟨k1 + 1, _, by simp only [Option.some.injEq, Prod.mk.injEq, and_true]; omega, ⟨by simp only [List.length_cons]; omega, ?_, p2, ⟨new1 ++ [⟨4, b, b, t.n, []⟩], by show M1.code ++ [(⟨4, b, b, t.n, []⟩ : Ins)] = _; rw [n1]; simp only [List.append_assoc], by simp [n1']⟩, by show M.regs ≤ M1.regs; omega, by show M1.regs ≤ _; omega, by show b + 1 ≤ M1.regs; omega⟩⟩
      rw [List.drop_succ_cons]
      exact r1.rest
    · rw [dF (by omega), cond_false, dF (by omega), cond_false, dT hk, cond_true]
      exact one _ (.inr (.inr (.inr (.inr (.inl ⟨rfl, ⟨hb, by show b < _; omega⟩, hn, rfl, rfl⟩))))) (by simp [asksT, hk])
    · rw [dF (by omega), cond_false, dF (by omega), cond_false, dF (by omega), cond_false, dF (by omega), cond_false, dF (by omega), cond_false, dT hk, cond_true]
      have hnl : t.n < f.length := by rw [hps] at hn; simpa using hn.2
      obtain ⟨m, hm⟩ := Int.eq_ofNat_of_zero_le hn.1
      have hml : m < f.length := by omega
      have hx := hbd f[m] (List.getElem_mem hml)
      obtain ⟨q, hq⟩ := Int.eq_ofNat_of_zero_le hx.1
      have hcall : callN ps t.n = q := by
        rw [hm, hps]; simp [callN, hml, hq]
      have ha : asksT ps t = q := by simp [asksT, hk, hcall]
      rw [show (code_maker_need M (b + 1)).f = f from hM.hf, hm, idx_lt hml, Option.bind_some]
      obtain ⟨k, M', e1, g1, g2, g3, g4, ⟨new, g5, g6⟩, g7, g8⟩ := call_loop hps c b hb (by omega) (t :: r) rest w hw t f[m] q hq (by omega) hn hcall d N IH (by simp only [List.length_cons]; omega) (by simp only [List.length_cons]; omega) htok (by simp only [List.length_cons]; omega)
        0 1 N [] (code_maker_need M (b + 1)) (by omega) (by omega) (by simp) (by omega) (by rw [ha] at hwr; rw [show w - 1 + ((q : Int) - ((0 : Nat) : Int)) = w + ((q : Int) - 1) by omega]; exact hwr) rfl (by simp) hM1 (by rw [hr1]; omega) (by rw [hr1]; omega) (by rw [hc1]; simp only [List.length_cons]; omega)
      rw [hc1] at g5
      rw [hr1] at g7 g8
      have e1' : again (code_maker_expr_b4 (code_maker_expr N) f[m] (t :: r ++ rest) b t) N (1, [], 0, f, (code_maker_need M (b + 1)).code, (code_maker_need M (b + 1)).regs) = some ((k : Int), M') := by
        have := e1
        rw [show (code_maker_need M (b + 1)).f = f from hM.hf] at this
        exact this
      rw [e1']
      exact ⟨k, M', rfl, ⟨by omega, g3, g4, ⟨new, g5, by omega⟩, by omega, by omega, by omega⟩⟩
end Go.Proofs.YtckocfgmnlhcmaaGreatDoor

namespace Go.Proofs.YtckocfgmnlhcmaaGreatDoor
open Go Go.Proofs Go.LX
/-- How many statements there are. -/
def cntB : Nat → List GStmt → Nat
  | 0, _ => 0
  | k + 1, l => (l.map fun s => 1 + cntB k s.a + cntB k s.b).sum
theorem cntB_nil (k : Nat) : cntB k [] = 0 := by cases k <;> rfl
theorem count_sum : ∀ (k : Nat) (l : List GStmt) (N : Nat) (r : Int), k < N → k ≤ 4 → source_count N l (5 - (k : Int)) = some (r, true) → r = (cntB k l : Int)
  | k, l, 0, r, h, _, _ => by omega
  | 0, l, N + 1, r, h, h4, hs => by
    have e : source_count (N + 1) l (5 - ((0 : Nat) : Int)) = some (0, false) := rfl
    rw [e] at hs; cases hs
  | k + 1, l, N + 1, r, h, h4, hs => by
    have ih := fun l' r' => count_sum k l' N r' (by omega) (by omega)
    have hs' : source_count_r (source_count N) l (5 - ((k + 1 : Nat) : Int)) = some (r, true) := hs
    unfold source_count_r at hs'
    rw [dF (by omega), cond_false] at hs'
    have hb : (5 - ((k + 1 : Nat) : Int)) + 1 = 5 - (k : Int) := by omega
    generalize hl0 : source_count_b27 (source_count N) l (5 - ((k + 1 : Nat) : Int)) = B at hs'
    have key : ∀ (m : List GStmt) (x5 r : Int), each B source_count_k28 m x5 = some (r, true) → r = x5 + ((m.map fun s => 1 + cntB k s.a + cntB k s.b).sum : Nat) := by
      intro m
      induction m with
      | nil =>
        intro x5 r hs
        have : some (x5, true) = some (r, true) := hs
        cases this; simp
      | cons s m ihm =>
        intro x5 r hs
        rw [each_cons', ← hl0, hl0] at hs
        have hs : source_count_b27 (source_count N) l (5 - ((k + 1 : Nat) : Int)) s x5 (each B source_count_k28 m) = some (r, true) := by rw [hl0]; exact hs
        generalize each B source_count_k28 m = nx at ihm hs
        unfold source_count_b27 at hs
        obtain ⟨_, hs⟩ := o_grd hs
        have j25 : ∀ x r, source_count_j25 (source_count N) s (5 - ((k + 1 : Nat) : Int)) nx x = some (r, true) → r = x + cntB k s.b + ((m.map fun s => 1 + cntB k s.a + cntB k s.b).sum : Nat) := by
          intro x r hs
          unfold source_count_j25 source_count_j26 at hs
          by_cases h5 : s.b.length = 0
          · rw [dT (by omega), cond_true] at hs
            have : s.b = [] := List.eq_nil_of_length_eq_zero h5
            rw [this, cntB_nil, ihm _ _ hs]; simp
          · rw [dF (by omega), cond_false] at hs
            obtain ⟨_, hs⟩ := o_grd hs
            obtain ⟨q, hq, hs⟩ := o_bind hs
            obtain ⟨_, hs⟩ := o_grd hs
            rw [hb] at hq
            obtain ⟨q1, q2⟩ := q
            cases q2 with
            | false => cases hs
            | true =>
              simp only [Bool.not_true, Bool.false_or] at hs
              by_cases h30 : 30 < x + q1
              · rw [dT h30] at hs; cases hs
              · rw [dF h30, cond_false] at hs
                rw [ihm _ _ hs, ih _ _ hq]
        by_cases h3 : 30 < x5 + 1
        · rw [dT h3] at hs; cases hs
        · rw [dF h3, cond_false] at hs
          simp only [List.map_cons, List.sum_cons]
          by_cases h5 : s.a.length = 0
          · rw [dT (by omega), cond_true] at hs
            have : s.a = [] := List.eq_nil_of_length_eq_zero h5
            rw [j25 _ _ hs, this, cntB_nil]; omega
          · rw [dF (by omega), cond_false] at hs
            obtain ⟨_, hs⟩ := o_grd hs
            obtain ⟨q, hq, hs⟩ := o_bind hs
            obtain ⟨_, hs⟩ := o_grd hs
            rw [hb] at hq
            obtain ⟨q1, q2⟩ := q
            cases q2 with
            | false => cases hs
            | true =>
              simp only [Bool.not_true, Bool.false_or] at hs
              by_cases h30 : 30 < x5 + 1 + q1
              · rw [dT h30] at hs; cases hs
              · rw [dF h30, cond_false] at hs
                rw [j25 _ _ hs, ih _ _ hq]; omega
    have := key l 0 r hs'
    rw [this, cntB]; simp
/-- A jump's place is set. -/
theorem set_mid {α : Type} (pre : List α) (z z' : α) (suf : List α) : (pre ++ z :: suf).set pre.length z' = pre ++ z' :: suf := by
  rw [List.set_append_right _ _ (Nat.le_refl _)]; simp
theorem MOk.patch {f : List Fun} {M : Maker} (h : MOk f M) {pre suf : List Ins} {z z' : Ins} (hc : M.code = pre ++ z :: suf) (hz : InsG (f.map (·.params)) M.regs M.code.length z') : MOk f ⟨M.f, pre ++ z' :: suf, M.regs⟩ := by
  have hl : (pre ++ z' :: suf).length = M.code.length := by rw [hc]; simp
  refine ⟨h.hf, fun c hcm => ?_, h.regs⟩
  show InsG _ M.regs ((pre ++ z' :: suf).length : Int) c
  rw [hl]
  have hcm : c ∈ pre ++ z' :: suf := hcm
  rcases List.mem_append.1 hcm with hcm | hcm
  · exact h.ins c (by rw [hc]; exact List.mem_append_left _ hcm)
  · rcases List.mem_cons.1 hcm with rfl | hcm
    · exact hz
    · exact h.ins c (by rw [hc]; exact List.mem_append_right _ (List.mem_cons_of_mem _ hcm))
structure StR (f : List Fun) (c : Int) (n : Nat) (M M' : Maker) : Prop where
  ok : MOk f M'
  new : ∃ new, M'.code = M.code ++ new ∧ new.length ≤ 50 * n
  up : M.regs ≤ M'.regs
  most : M'.regs ≤ max M.regs (c + 26)
theorem expr_nonempty {ps : List Int} {c : Int} {e : List Tok} (h : ExprOk ps c e) : 0 < e.length := by
  obtain ⟨t, r, h1, _⟩ := wants_pos h.2.2 (by decide)
  rw [h1]; simp
section
variable {f : List Fun} {ps : List Int} {c : Int}
theorem expr_st (hps : ps = f.map (·.params)) (hbd : ∀ x ∈ f, 0 ≤ x.params ∧ x.params ≤ 3) (hf4 : f.length ≤ 4) (hc0 : 0 ≤ c) (hc6 : c ≤ 6) {e : List Tok} (he : ExprOk ps c e) (b : Int) (hb : 0 ≤ b) (hb2 : b ≤ 10) (M : Maker) (hM : MOk f M) (hcM : c ≤ M.regs) (hl : M.code.length ≤ 3900) (N : Nat) (hN : 30 ≤ N) :
    ∃ (k : Nat) (M' : Maker), code_maker_expr N M e b = some ((k : Int), M') ∧ k ≤ 24 ∧ MOk f M' ∧ (∃ new, M'.code = M.code ++ new ∧ new.length = k) ∧ M.regs ≤ M'.regs ∧ M'.regs ≤ max M.regs (b + 24) ∧ b + 1 ≤ M'.regs := by
  have h24 := he.1
  obtain ⟨k, M', e1, r⟩ := expr_ok hps hbd hf4 c hc6 [] 25 e 1 b M N (by omega) (by omega) (by decide) he.2.2 he.2.1 hM hb (by omega) hcM (by omega)
  rw [List.append_nil] at e1
  have hk := r.hk
  have hm := r.most
  exact ⟨k, M', e1, by omega, r.ok, r.new, r.up, by omega, r.has⟩
theorem st_ok (hps : ps = f.map (·.params)) (hbd : ∀ x ∈ f, 0 ≤ x.params ∧ x.params ≤ 3) (hf4 : f.length ≤ 4) (hc0 : 0 ≤ c) (hc6 : c ≤ 6) (N : Nat) (hN : 30 ≤ N) (F0 : Maker → List GStmt → Int → Option Maker) (k : Nat)
    (hF : ∀ (l : List GStmt) (M : Maker), BlkOk ps c k l → MOk f M → c + 1 ≤ M.regs → M.code.length + 50 * cntB k l ≤ 3000 → ∃ M', F0 M l c = some M' ∧ StR f c (cntB k l) M M')
    (s : GStmt) (h : Shape ps c s) (ha : BlkOk ps c k s.a) (hb : BlkOk ps c k s.b) (M : Maker) (hM : MOk f M) (hcM : c + 1 ≤ M.regs) (hl : M.code.length + 50 * (1 + cntB k s.a + cntB k s.b) ≤ 3000) (a0 : List GStmt) (nx : List Fun × List Ins × Int → Option Maker) :
    ∃ M', code_maker_stmts_b10 N F0 c a0 s (M.f, M.code, M.regs) nx = nx (M'.f, M'.code, M'.regs) ∧ StR f c (1 + cntB k s.a + cntB k s.b) M M' := by
  have hreg : Reg M.regs c := ⟨hc0, by omega⟩
  unfold code_maker_stmts_b10
  simp only
  rw [show (⟨M.f, M.code, M.regs⟩ : Maker) = M from rfl]
  by_cases h4 : s.kind = 4
  · have hs : s.e = [] := by
      unfold Shape at h
      rcases h with h | h | h | h | h | h | h | h
      all_goals first | exact absurd h.1 (by omega) | exact h.2.2.1
    rw [hs, dF (by simp), cond_false]
    unfold code_maker_stmts_j9 code_maker_stmts_j8
    rw [dF (by omega), cond_false, dF (by omega), cond_false, dF (by omega), cond_false, dT h4, cond_true, show (⟨M.f, M.code, M.regs⟩ : Maker) = M from rfl]
    obtain ⟨p1, p2⟩ := put_ok hM (c := ⟨10, 0, 0, 0, []⟩) (.inr (.inr (.inr (.inr (.inr (.inr (.inr (.inl ⟨rfl, rfl, rfl, rfl, rfl⟩)))))))) (by omega)
    rw [p1, Option.bind_some]
    exact ⟨_, rfl, p2, ⟨[_], rfl, by simp; omega⟩, Int.le_refl _, by show M.regs ≤ _; omega⟩
  have he : ExprOk ps c s.e := by
    unfold Shape at h
    rcases h with h | h | h | h | h | h | h | h
    all_goals first | exact h.2.2.1 | exact absurd h.1 h4
  rw [dT (by have := expr_nonempty he; omega), cond_true]
  obtain ⟨k1, M1, e1, hk1, hM1, ⟨new1, n1, n1'⟩, u1, m1, g1⟩ := expr_st hps hbd hf4 hc0 hc6 he c hc0 (by omega) M hM (by omega) (by omega) N hN
  have l1 : M1.code.length = M.code.length + k1 := by rw [n1]; simp [n1']
  have hreg1 : Reg M1.regs c := ⟨hc0, by omega⟩
  rw [e1, Option.bind_some]
  simp only
  -- a last instruction of its own
  have last : ∀ (i : Ins) (M2 : Maker), MOk f M2 → (∃ new, M2.code = M1.code ++ new ∧ new.length ≤ 24) → M1.regs ≤ M2.regs → M2.regs ≤ max M.regs (c + 26) → InsG (f.map (·.params)) M2.regs (M2.code.length + 1) i →
      ∃ M', ((code_maker_put M2 i).bind fun y => code_maker_stmts_j8 nx y.2.f y.2.code y.2.regs) = nx (M'.f, M'.code, M'.regs) ∧ StR f c (1 + cntB k s.a + cntB k s.b) M M' := by
    intro i M2 hM2 hn hu hm hi
    obtain ⟨new2, n2, n2'⟩ := hn
    have l2 : M2.code.length = M1.code.length + new2.length := by rw [n2]; simp
    obtain ⟨p1, p2⟩ := put_ok hM2 hi (by omega)
    rw [p1, Option.bind_some]
    exact ⟨_, rfl, p2, ⟨new1 ++ new2 ++ [i], by show M2.code ++ [i] = _; rw [n2, n1]; simp only [List.append_assoc], by simp; omega⟩, by show M.regs ≤ M2.regs; omega, hm⟩
  have self : MOk f M1 ∧ (∃ new, M1.code = M1.code ++ new ∧ new.length ≤ 24) := ⟨hM1, [], by simp, by simp⟩
  have zero : ∀ B, InsG (f.map (·.params)) B 1 ⟨0, 0, 0, 0, []⟩ → True := fun _ _ => trivial
  unfold Shape at h
  rcases h with ⟨hk, h1, _, _⟩ | ⟨hk, h1, _, hff, _⟩ | ⟨hk, _⟩ | ⟨hk, _⟩ | ⟨hk, _⟩ | ⟨hk, _⟩ | ⟨hk, h1, _, hfe, hbe⟩ | ⟨hk, _⟩
  · rw [dF (by omega), cond_false]
    unfold code_maker_stmts_j9
    rw [dT hk, cond_true]
    exact last _ M1 self.1 self.2 (Int.le_refl _) (by omega) (.inr (.inl ⟨rfl, ⟨h1.1, by show s.n < _; omega⟩, hreg1, rfl, rfl⟩))
  · rw [dF (by omega), cond_false]
    unfold code_maker_stmts_j9
    rw [dF (by omega), cond_false, dT hk, cond_true, gI (by omega) (by omega)]
    obtain ⟨k2, M2, e2, hk2, hM2, ⟨new2, n2, n2'⟩, u2, m2, g2⟩ := expr_st hps hbd hf4 hc0 hc6 hff (c + 1) (by omega) (by omega) M1 hM1 (by omega) (by omega) N hN
    rw [show (⟨M1.f, M1.code, M1.regs⟩ : Maker) = M1 from rfl, e2, Option.bind_some, gI (by omega) (by omega)]
    exact last _ M2 hM2 ⟨new2, n2, by omega⟩ u2 (by omega) (.inr (.inr (.inr (.inl ⟨.inr rfl, ⟨hc0, by show c < _; omega⟩, ⟨by show 0 ≤ c + 1; omega, by show c + 1 < _; omega⟩, h1, rfl⟩))))
  · rw [dF (by omega), cond_false]
    unfold code_maker_stmts_j9
    rw [dF (by omega), cond_false, dF (by omega), cond_false, dT hk, cond_true]
    exact last _ M1 self.1 self.2 (Int.le_refl _) (by omega) (.inr (.inr (.inr (.inr (.inr (.inr (.inl ⟨.inr (.inl rfl), hreg1, rfl, rfl, rfl⟩)))))))
  · exact absurd hk h4
  · rw [dF (by omega), cond_false]
    unfold code_maker_stmts_j9
    rw [dF (by omega), cond_false, dF (by omega), cond_false, dF (by omega), cond_false, dF (by omega), cond_false, dT hk, cond_true]
    exact last _ M1 self.1 self.2 (Int.le_refl _) (by omega) (.inr (.inr (.inr (.inr (.inr (.inr (.inl ⟨.inr (.inr rfl), hreg1, rfl, rfl, rfl⟩)))))))
  · rw [dF (by omega), cond_false]
    unfold code_maker_stmts_j9 code_maker_stmts_j8
    rw [dF (by omega), cond_false, dF (by omega), cond_false, dF (by omega), cond_false, dF (by omega), cond_false, dF (by omega), cond_false, dF (by omega), cond_false, dT hk, cond_true, show (⟨M1.f, M1.code, M1.regs⟩ : Maker) = M1 from rfl]
    obtain ⟨p1, p2⟩ := put_ok hM1 (c := ⟨13, c, 0, 0, []⟩) (.inr (.inr (.inr (.inr (.inr (.inr (.inr (.inr (.inr ⟨rfl, hreg1, ⟨by show (0 : Int) ≤ 0; omega, by show (0 : Int) ≤ _; omega⟩, rfl, rfl⟩))))))))) (by omega)
    rw [p1, Option.bind_some]
    simp only
    obtain ⟨M3, e3, r3⟩ := hF s.a ⟨M1.f, M1.code ++ [⟨13, c, 0, 0, []⟩], M1.regs⟩ ha p2 (by show c + 1 ≤ M1.regs; omega) (by show (M1.code ++ [_]).length + _ ≤ _; simp; omega)
    obtain ⟨newa, na, na'⟩ := r3.new
    have ua := r3.up; have ma := r3.most
    simp only at na ua ma
    have l3 : M3.code.length = M1.code.length + 1 + newa.length := by rw [na]; simp only [List.length_append, List.length_singleton]
    rw [e3, Option.bind_some]
    obtain ⟨q1, q2⟩ := put_ok r3.ok (c := ⟨12, 0, 0, 0, []⟩) (.inr (.inr (.inr (.inr (.inr (.inr (.inr (.inr (.inl ⟨rfl, rfl, ⟨by show (0 : Int) ≤ 0; omega, by show (0 : Int) ≤ _; omega⟩, rfl, rfl⟩))))))))) (by omega)
    rw [q1, Option.bind_some]
    simp only
    have hc4 : M3.code ++ [(⟨12, 0, 0, 0, []⟩ : Ins)] = M1.code ++ ⟨13, c, 0, 0, []⟩ :: (newa ++ [⟨12, 0, 0, 0, []⟩]) := by rw [na]; simp
    have l4 : (M3.code ++ [(⟨12, 0, 0, 0, []⟩ : Ins)]).length = M3.code.length + 1 := by simp
    have hreg3 : Reg M3.regs c := ⟨hc0, by omega⟩
    have P1 := q2.patch (z' := ⟨13, c, ((M3.code ++ [(⟨12, 0, 0, 0, []⟩ : Ins)]).length : Int), 0, []⟩) hc4 (.inr (.inr (.inr (.inr (.inr (.inr (.inr (.inr (.inr ⟨rfl, hreg3, ⟨Int.natCast_nonneg _, Int.le_refl _⟩, rfl, rfl⟩)))))))))
    have i1 : idx (M3.code ++ [(⟨12, 0, 0, 0, []⟩ : Ins)]) (M1.code.length : Int) = some ⟨13, c, 0, 0, []⟩ := by rw [hc4, idx_nat]; simp
    rw [i1, Option.bind_some, Int.toNat_natCast]
    simp only
    have st1 : (M3.code ++ [(⟨12, 0, 0, 0, []⟩ : Ins)]).set M1.code.length ⟨13, c, ((M3.code ++ [(⟨12, 0, 0, 0, []⟩ : Ins)]).length : Int), 0, []⟩ = M1.code ++ ⟨13, c, ((M3.code ++ [(⟨12, 0, 0, 0, []⟩ : Ins)]).length : Int), 0, []⟩ :: (newa ++ [⟨12, 0, 0, 0, []⟩]) := by
      conv => lhs; arg 1; rw [hc4]
      rw [set_mid]
    rw [st1]
    generalize hz1 : (⟨13, c, ((M3.code ++ [(⟨12, 0, 0, 0, []⟩ : Ins)]).length : Int), 0, []⟩ : Ins) = z1 at P1 ⊢
    obtain ⟨M5, e5, r5⟩ := hF s.b ⟨M3.f, M1.code ++ z1 :: (newa ++ [⟨12, 0, 0, 0, []⟩]), M3.regs⟩ hb P1 (by show c + 1 ≤ M3.regs; omega) (by show (M1.code ++ z1 :: (newa ++ [_])).length + _ ≤ _; simp; omega)
    obtain ⟨newb, nb, nb'⟩ := r5.new
    have ub := r5.up; have mb := r5.most
    simp only at nb ub mb
    rw [e5, Option.bind_some]
    have hpre : M3.code.length = (M1.code ++ z1 :: newa).length := by rw [l3]; simp; omega
    have hc5 : M5.code = (M1.code ++ z1 :: newa) ++ ⟨12, 0, 0, 0, []⟩ :: newb := by rw [nb]; simp
    have P2 := r5.ok.patch (z' := ⟨12, 0, (M5.code.length : Int), 0, []⟩) hc5 (.inr (.inr (.inr (.inr (.inr (.inr (.inr (.inr (.inl ⟨rfl, rfl, ⟨Int.natCast_nonneg _, Int.le_refl _⟩, rfl, rfl⟩)))))))))
    have i2 : idx M5.code (M3.code.length : Int) = some ⟨12, 0, 0, 0, []⟩ := by rw [hc5, hpre, idx_nat]; simp
    rw [i2, Option.bind_some, Int.toNat_natCast]
    simp only
    have st2 : M5.code.set M3.code.length ⟨12, 0, (M5.code.length : Int), 0, []⟩ = (M1.code ++ z1 :: newa) ++ ⟨12, 0, (M5.code.length : Int), 0, []⟩ :: newb := by
      conv => lhs; arg 1; rw [hc5]
      rw [hpre, set_mid]
    rw [st2]
    refine ⟨⟨M5.f, (M1.code ++ z1 :: newa) ++ ⟨12, 0, (M5.code.length : Int), 0, []⟩ :: newb, M5.regs⟩, rfl, P2, ⟨new1 ++ z1 :: newa ++ ⟨12, 0, (M5.code.length : Int), 0, []⟩ :: newb, ?_, ?_⟩, by show M.regs ≤ M5.regs; omega, by show M5.regs ≤ _; omega⟩
    · show (M1.code ++ z1 :: newa) ++ _ = _
      rw [n1]; simp only [List.append_assoc, List.cons_append]
    · simp only [List.length_append, List.length_cons]; omega
  · rw [dT hk, cond_true]
    unfold code_maker_stmts_j8
    obtain ⟨p1, p2⟩ := put_ok hM1 (c := ⟨13, c, 0, 0, []⟩) (.inr (.inr (.inr (.inr (.inr (.inr (.inr (.inr (.inr ⟨rfl, hreg1, ⟨by show (0 : Int) ≤ 0; omega, by show (0 : Int) ≤ _; omega⟩, rfl, rfl⟩))))))))) (by omega)
    rw [p1, Option.bind_some]
    simp only
    obtain ⟨M3, e3, r3⟩ := hF s.a ⟨M1.f, M1.code ++ [⟨13, c, 0, 0, []⟩], M1.regs⟩ ha p2 (by show c + 1 ≤ M1.regs; omega) (by show (M1.code ++ [_]).length + _ ≤ _; simp; omega)
    obtain ⟨newa, na, na'⟩ := r3.new
    have ua := r3.up; have ma := r3.most
    simp only at na ua ma
    have l3 : M3.code.length = M1.code.length + 1 + newa.length := by rw [na]; simp only [List.length_append, List.length_singleton]
    rw [e3, Option.bind_some]
    obtain ⟨q1, q2⟩ := put_ok r3.ok (c := ⟨12, 0, (M.code.length : Int), 0, []⟩) (.inr (.inr (.inr (.inr (.inr (.inr (.inr (.inr (.inl ⟨rfl, rfl, ⟨by show (0 : Int) ≤ (M.code.length : Int); omega, by show (M.code.length : Int) ≤ _; omega⟩, rfl, rfl⟩))))))))) (by omega)
    rw [q1, Option.bind_some]
    simp only
    have hc4 : M3.code ++ [(⟨12, 0, (M.code.length : Int), 0, []⟩ : Ins)] = M1.code ++ ⟨13, c, 0, 0, []⟩ :: (newa ++ [⟨12, 0, (M.code.length : Int), 0, []⟩]) := by rw [na]; simp
    have hreg3 : Reg M3.regs c := ⟨hc0, by omega⟩
    have P1 := q2.patch (z' := ⟨13, c, ((M3.code ++ [(⟨12, 0, (M.code.length : Int), 0, []⟩ : Ins)]).length : Int), 0, []⟩) hc4 (.inr (.inr (.inr (.inr (.inr (.inr (.inr (.inr (.inr ⟨rfl, hreg3, ⟨Int.natCast_nonneg _, Int.le_refl _⟩, rfl, rfl⟩)))))))))
    have i1 : idx (M3.code ++ [(⟨12, 0, (M.code.length : Int), 0, []⟩ : Ins)]) (M1.code.length : Int) = some ⟨13, c, 0, 0, []⟩ := by rw [hc4, idx_nat]; simp
    rw [i1, Option.bind_some, Int.toNat_natCast]
    simp only
    have st1 : (M3.code ++ [(⟨12, 0, (M.code.length : Int), 0, []⟩ : Ins)]).set M1.code.length ⟨13, c, ((M3.code ++ [(⟨12, 0, (M.code.length : Int), 0, []⟩ : Ins)]).length : Int), 0, []⟩ = M1.code ++ ⟨13, c, ((M3.code ++ [(⟨12, 0, (M.code.length : Int), 0, []⟩ : Ins)]).length : Int), 0, []⟩ :: (newa ++ [⟨12, 0, (M.code.length : Int), 0, []⟩]) := by
      conv => lhs; arg 1; rw [hc4]
      rw [set_mid]
    rw [st1]
    generalize (⟨13, c, ((M3.code ++ [(⟨12, 0, (M.code.length : Int), 0, []⟩ : Ins)]).length : Int), 0, []⟩ : Ins) = z1 at P1 ⊢
    refine ⟨⟨M3.f, M1.code ++ z1 :: (newa ++ [⟨12, 0, (M.code.length : Int), 0, []⟩]), M3.regs⟩, rfl, P1, ⟨new1 ++ z1 :: (newa ++ [⟨12, 0, (M.code.length : Int), 0, []⟩]), ?_, ?_⟩, by show M.regs ≤ M3.regs; omega, by show M3.regs ≤ _; omega⟩
    · show M1.code ++ _ = _
      rw [n1]; simp only [List.append_assoc]
    · simp only [List.length_append, List.length_cons, List.length_nil]; omega
  · rw [dF (by omega), cond_false]
    unfold code_maker_stmts_j9
    rw [dF (by omega), cond_false, dF (by omega), cond_false, dF (by omega), cond_false, dF (by omega), cond_false, dF (by omega), cond_false, dT hk, cond_true]
    exact last _ M1 self.1 self.2 (Int.le_refl _) (by omega) (.inr (.inr (.inr (.inr (.inr (.inr (.inl ⟨.inl rfl, hreg1, rfl, rfl, rfl⟩)))))))
end
end Go.Proofs.YtckocfgmnlhcmaaGreatDoor

namespace Go.Proofs.YtckocfgmnlhcmaaGreatDoor
open Go Go.Proofs Go.LX
theorem StR.trans {f : List Fun} {c : Int} {n m : Nat} {M M1 M2 : Maker} (h1 : StR f c n M M1) (h2 : StR f c m M1 M2) : StR f c (n + m) M M2 := by
  obtain ⟨a, a1, a2⟩ := h1.new
  obtain ⟨b, b1, b2⟩ := h2.new
  have := h1.up; have := h1.most; have := h2.up; have := h2.most
  exact ⟨h2.ok, ⟨a ++ b, by rw [b1, a1, List.append_assoc], by simp only [List.length_append]; omega⟩, by omega, by omega⟩
theorem stmts_ok {f : List Fun} {ps : List Int} {c : Int} (hps : ps = f.map (·.params)) (hbd : ∀ x ∈ f, 0 ≤ x.params ∧ x.params ≤ 3) (hf4 : f.length ≤ 4) (hc0 : 0 ≤ c) (hc6 : c ≤ 6) : ∀ (k : Nat) (l : List GStmt) (M : Maker) (N : Nat), BlkOk ps c k l → k + 31 ≤ N → MOk f M → c + 1 ≤ M.regs → M.code.length + 50 * cntB k l ≤ 3000 → ∃ M', code_maker_stmts N M l c = some M' ∧ StR f c (cntB k l) M M'
  | k, l, M, 0, _, h, _, _, _ => by omega
  | 0, l, M, N + 1, h, hN, hM, hc, hl => by
    have : l = [] := h
    subst this
    exact ⟨M, rfl, hM, ⟨[], by simp, by simp⟩, Int.le_refl _, by omega⟩
  | k + 1, l, M, N + 1, h, hN, hM, hc, hl => by
    show ∃ M', code_maker_stmts_r N (code_maker_stmts N) M l c = some M' ∧ _
    unfold code_maker_stmts_r
    have key : ∀ (m : List GStmt) (M : Maker), (∀ s ∈ m, Shape ps c s ∧ BlkOk ps c k s.a ∧ BlkOk ps c k s.b) → MOk f M → c + 1 ≤ M.regs → M.code.length + 50 * (m.map fun s => 1 + cntB k s.a + cntB k s.b).sum ≤ 3000 →
        ∃ M', each (code_maker_stmts_b10 N (code_maker_stmts N) c l) code_maker_stmts_k11 m (M.f, M.code, M.regs) = some M' ∧ StR f c (m.map fun s => 1 + cntB k s.a + cntB k s.b).sum M M' := by
      intro m
      induction m with
      | nil => intro M _ hM _ _; exact ⟨M, rfl, hM, ⟨[], by simp, by simp⟩, Int.le_refl _, by omega⟩
      | cons s m ih =>
        intro M hs hM hc hl
        simp only [List.map_cons, List.sum_cons] at hl ⊢
        obtain ⟨g1, g2, g3⟩ := hs s (by simp)
        rw [each_cons']
        obtain ⟨M1, e1, r1⟩ := st_ok hps hbd hf4 hc0 hc6 N (by omega) (code_maker_stmts N) k (fun l' M' q1 q2 q3 q4 => stmts_ok hps hbd hf4 hc0 hc6 k l' M' N q1 (by omega) q2 q3 q4) s g1 g2 g3 M hM hc (by omega) l (each (code_maker_stmts_b10 N (code_maker_stmts N) c l) code_maker_stmts_k11 m)
        rw [e1]
        obtain ⟨new, n1, n2⟩ := r1.new
        have l1 : M1.code.length = M.code.length + new.length := by rw [n1]; simp
        obtain ⟨M2, e2, r2⟩ := ih M1 (fun x hx => hs x (List.mem_cons_of_mem _ hx)) r1.ok (by have := r1.up; omega) (by omega)
        exact ⟨M2, e2, r1.trans r2⟩
    exact key l M h.2 hM hc hl
/-! A right instruction is found right. -/
theorem below_t {R x : Int} (h : Reg R x) : wandererref_below x R = true := by
  unfold wandererref_below; rw [dT h.1, dT h.2]; rfl
theorem in_t {x a b : Int} (h1 : a ≤ x) (h2 : x ≤ b) : wandererref_in x a b = true := by
  unfold wandererref_in; rw [dT h1, dT h2]; rfl
theorem b8_all (R : Int) : ∀ l : List Int, (∀ x ∈ l, Reg R x) → each (code_check_b8 R) code_check_k9 l () = some 0
  | [], _ => rfl
  | x :: l, h => by
    rw [each_cons']
    have ih := b8_all R l (fun y hy => h y (List.mem_cons_of_mem _ hy))
    generalize each (code_check_b8 R) code_check_k9 l = nx at ih ⊢
    unfold code_check_b8
    rw [dT (h x (by simp)).1, dT (h x (by simp)).2]
    exact ih
theorem insG_check {out : List Proc} {ps : List Int} (hps : ps = out.map (·.params)) {R L many : Int} (hL : L < many) {c : Ins} (h : InsG ps R L c) (i : Int) : code_check c i out R many = some 0 := by
  obtain ⟨op, a, b, d, args⟩ := c
  unfold InsG at h
  simp only at h
  rcases h with ⟨rfl, h2, h3, rfl, rfl⟩ | ⟨rfl, h2, h3, rfl, rfl⟩ | ⟨rfl, h2, h3, h4, n, rfl, h5⟩ | ⟨rfl | rfl, h2, h3, h4, rfl⟩ | ⟨rfl, h2, h3, rfl, rfl⟩ | ⟨rfl, h2, h3, rfl, h5, h6⟩ | ⟨rfl | rfl | rfl, h2, rfl, rfl, rfl⟩ | ⟨rfl, rfl, rfl, rfl, rfl⟩ | ⟨rfl, rfl, h3, rfl, rfl⟩ | ⟨rfl, h2, h3, rfl, rfl⟩
  · simp [code_check, code_uses, code_uses_j4, code_uses_j5, code_uses_j6, code_check_1_, code_check_j4, code_check_j5, code_check_j10, code_check_j11, code_check_j12, Cod.idx0, Cod.belowL, Cod.inL, Cod.notBelow, Cod.below4, below_t h2, in_t h3.1 h3.2]
  · simp [code_check, code_uses, code_uses_j4, code_uses_j5, code_uses_j6, code_check_1_, code_check_j4, code_check_j5, code_check_j10, code_check_j11, code_check_j12, Cod.idx0, Cod.belowL, Cod.inL, Cod.notBelow, Cod.below4, below_t h2, below_t h3]
  · simp [code_check, code_uses, code_uses_j4, code_uses_j5, code_uses_j6, code_check_1_, code_check_j4, code_check_j5, code_check_j10, code_check_j11, code_check_j12, Cod.idx0, Cod.belowL, Cod.inL, Cod.notBelow, Cod.below4, below_t h2, below_t h3, below_t h4, in_t h5.1 h5.2]
  · simp [code_check, code_uses, code_uses_j4, code_uses_j5, code_uses_j6, code_check_1_, code_check_j4, code_check_j5, code_check_j10, code_check_j11, code_check_j12, Cod.idx0, Cod.belowL, Cod.inL, Cod.notBelow, Cod.below4, below_t h2, below_t h3, in_t h4.1 (show d ≤ 3 by omega)]
  · simp [code_check, code_uses, code_uses_j4, code_uses_j5, code_uses_j6, code_check_1_, code_check_j4, code_check_j5, code_check_j10, code_check_j11, code_check_j12, Cod.idx0, Cod.belowL, Cod.inL, Cod.notBelow, Cod.below4, below_t h2, below_t h3, in_t h4.1 (show d ≤ 3 by omega)]
  · simp [code_check, code_uses, code_uses_j4, code_uses_j5, code_uses_j6, code_check_1_, code_check_j4, code_check_j5, code_check_j10, code_check_j11, code_check_j12, Cod.idx0, Cod.belowL, Cod.inL, Cod.notBelow, Cod.below4, below_t h2, in_t h3.1 h3.2]
  · have hb : b < (out.length : Int) := by rw [hps] at h3; simpa using h3.2
    obtain ⟨m, rfl⟩ := Int.eq_ofNat_of_zero_le h3.1
    have hm : m < out.length := by omega
    have hc : callN ps (m : Int) = out[m].params := by rw [hps]; simp [callN, hm]
    rw [hc] at h5
    have hbt : wandererref_below (m : Int) (out.length : Int) = true := below_t ⟨h3.1, hb⟩
    simp [code_check, code_uses, code_uses_j4, code_uses_j5, code_uses_j6, code_check_1_, code_check_j4, code_check_j5, code_check_j10, code_check_j11, code_check_j12, Cod.idx0, Cod.belowL, Cod.inL, Cod.notBelow, Cod.below4, below_t h2, hbt, idx_lt hm, h5]
    rw [show (decide ((m : Int) < 0) || decide (out.length ≤ m)) = false by simp only [Bool.or_eq_false_iff, decide_eq_false_iff_not]; omega, cond_false]
    exact b8_all R args h6
  · simp [code_check, code_uses, code_uses_j4, code_uses_j5, code_uses_j6, code_check_1_, code_check_j4, code_check_j5, code_check_j10, code_check_j11, code_check_j12, Cod.idx0, Cod.belowL, Cod.inL, Cod.notBelow, Cod.below4, below_t h2]
  · simp [code_check, code_uses, code_uses_j4, code_uses_j5, code_uses_j6, code_check_1_, code_check_j4, code_check_j5, code_check_j10, code_check_j11, code_check_j12, Cod.idx0, Cod.belowL, Cod.inL, Cod.notBelow, Cod.below4, below_t h2]
  · simp [code_check, code_uses, code_uses_j4, code_uses_j5, code_uses_j6, code_check_1_, code_check_j4, code_check_j5, code_check_j10, code_check_j11, code_check_j12, Cod.idx0, Cod.belowL, Cod.inL, Cod.notBelow, Cod.below4, below_t h2]
  · simp [code_check, code_uses, code_uses_j4, code_uses_j5, code_uses_j6, code_check_1_, code_check_j4, code_check_j5, code_check_j10, code_check_j11, code_check_j12, Cod.idx0, Cod.belowL, Cod.inL, Cod.notBelow, Cod.below4]
  · have hbt : wandererref_below b many = true := below_t ⟨h3.1, by omega⟩
    simp [code_check, code_uses, code_uses_j4, code_uses_j5, code_uses_j6, code_check_1_, code_check_j4, code_check_j5, code_check_j10, code_check_j11, code_check_j12, Cod.idx0, Cod.belowL, Cod.inL, Cod.notBelow, Cod.below4, hbt]
  · have hbt : wandererref_below b many = true := below_t ⟨h3.1, by omega⟩
    simp [code_check, code_uses, code_uses_j4, code_uses_j5, code_uses_j6, code_check_1_, code_check_j4, code_check_j5, code_check_j10, code_check_j11, code_check_j12, Cod.idx0, Cod.belowL, Cod.inL, Cod.notBelow, Cod.below4, hbt, below_t h2]
theorem last_ok {x : Proc} {pre : List Ins} {a : Int} (h : x.code = pre ++ [⟨8, a, 0, 0, []⟩]) (nx : Unit → Option Int) (hl : x.code.length ≤ 5000) : code_Check_k36 x nx () = nx () := by
  have hlen : x.code.length = pre.length + 1 := by rw [h]; simp
  unfold code_Check_k36
  rw [gI (by omega) (by omega), show ((x.code.length : Int) - 1) = (pre.length : Int) by omega, idx_nat, h]
  simp
theorem b35_all (a : List Proc) (x : Proc) (k : Unit → Option Int) : ∀ (l : List Ins) (i : Int), (∀ c ∈ l, ∀ i, code_check c i a x.regs (x.code.length : Int) = some 0) → eachI (code_Check_b35 a x) k i l () = k ()
  | [], i, _ => rfl
  | c :: l, i, h => by
    have ih := b35_all a x k l (i + 1) (fun d hd => h d (List.mem_cons_of_mem _ hd))
    have e : eachI (code_Check_b35 a x) k i (c :: l) () = code_Check_b35 a x i c () (eachI (code_Check_b35 a x) k (i + 1) l) := rfl
    rw [e]
    generalize eachI (code_Check_b35 a x) k (i + 1) l = nx at ih ⊢
    unfold code_Check_b35
    rw [h c (by simp), Option.bind_some, dF (by simp), cond_false, ih]
inductive All2 {α β : Type} (R : α → β → Prop) : List α → List β → Prop
  | nil : All2 R [] []
  | cons {x : α} {y : β} {l : List α} {m : List β} : R x y → All2 R l m → All2 R (x :: l) (y :: m)
theorem All2.length_eq {α β : Type} {R : α → β → Prop} : ∀ {l : List α} {m : List β}, All2 R l m → l.length = m.length
  | _, _, .nil => rfl
  | _, _, .cons _ h => by simp [h.length_eq]
theorem All2.right {α β : Type} {R : α → β → Prop} : ∀ {l : List α} {m : List β}, All2 R l m → ∀ y ∈ m, ∃ x, R x y
  | _, _, .nil, y, hy => by cases hy
  | _, _, .cons h hs, y, hy => by
    rcases List.mem_cons.1 hy with rfl | hy
    · exact ⟨_, h⟩
    · exact hs.right y hy
structure ProcG (ps : List Int) (x : Fun) (y : Proc) : Prop where
  params : y.params = x.params
  regs : x.locals + 1 ≤ y.regs ∧ y.regs ≤ 40
  len : 1 ≤ y.code.length ∧ y.code.length ≤ 2000
  last : ∃ pre a, y.code = pre ++ [⟨8, a, 0, 0, []⟩]
  ins : ∀ c ∈ y.code, InsG ps y.regs ((y.code.length : Int) - 1) c
theorem b37_all (a : List Proc) (ps : List Int) (hps : ps = a.map (·.params)) : ∀ l : List Proc, (∀ y ∈ l, ∃ x, ProcG ps x y) → each (code_Check_b37 a) code_Check_k38 l () = some 0
  | [], _ => rfl
  | y :: l, h => by
    have ih := b37_all a ps hps l (fun z hz => h z (List.mem_cons_of_mem _ hz))
    obtain ⟨x, g⟩ := h y (by simp)
    obtain ⟨pre, b, hl⟩ := g.last
    rw [each_cons']
    generalize each (code_Check_b37 a) code_Check_k38 l = nx at ih ⊢
    unfold code_Check_b37
    rw [b35_all a y _ y.code 0 (fun c hc i => insG_check hps (by omega) (g.ins c hc) i), last_ok hl nx (by have := g.len; omega), ih]
theorem heads_all (ps : List Int) : ∀ (f : List Fun) (out : List Proc) (i : Nat), All2 (ProcG ps) f out → (∀ x ∈ f, (0 ≤ x.params ∧ x.params ≤ 3) ∧ x.params ≤ x.locals) → (i = 0 → ∀ x r, f = x :: r → x.params = 0) → Cod.heads i out = 0
  | _, _, i, .nil, _, _ => rfl
  | x :: f, y :: out, i, .cons g gs, h, h0 => by
    have hx := h x (by simp)
    have ih := heads_all ps f out (i + 1) gs (fun z hz => h z (List.mem_cons_of_mem _ hz)) (fun h => by omega)
    have hp := g.params; have hr := g.regs; have hl := g.len
    have hz : i = 0 → y.params = 0 := fun hi => by rw [hp]; exact h0 hi x f rfl
    have e : Cod.headOk i y = 0 := by
      unfold Cod.headOk
      rw [if_pos ⟨by omega, by omega, by rintro ⟨q1, q2⟩; exact q2 (hz q1)⟩, if_pos (by omega)]
    unfold Cod.heads
    rw [if_neg (by omega), ih]
theorem check_out {f : List Fun} {ps : List Int} {out : List Proc} (hps : ps = f.map (·.params)) (hf : 1 ≤ f.length ∧ f.length ≤ 4) (g : All2 (ProcG ps) f out) (h : ∀ x ∈ f, (0 ≤ x.params ∧ x.params ≤ 3) ∧ x.params ≤ x.locals) (h0 : ∀ x r, f = x :: r → x.params = 0) : code_Check out = some 0 := by
  have hlen : out.length = f.length := g.length_eq.symm
  have hpo : ps = out.map (·.params) := by
    rw [hps]
    clear hps hf h h0 hlen
    induction g with
    | nil => rfl
    | cons g gs ih => simp only [List.map_cons, g.params, ih]
  unfold code_Check
  rw [show (decide (((out.length : Int) : Int) = 0) || decide ((4 : Int) < (out.length : Int))) = false by simp only [Bool.or_eq_false_iff, decide_eq_false_iff_not]; omega, cond_false]
  have e : eachI code_Check_b39 (code_Check_k40 out) 0 out () = _ := Cod.heads_eq (code_Check_k40 out) out 0
  rw [e, heads_all ps f out 0 g h (fun _ => h0), if_neg (by omega)]
  exact b37_all out ps hpo out g.right
theorem params_eq {ps : List Int} : ∀ {f : List Fun} {out : List Proc}, All2 (ProcG ps) f out → ps = f.map (·.params) → out.map (·.params) = f.map (·.params)
  | _, _, .nil, _ => rfl
  | x :: f, y :: out, .cons g gs, _ => by
    have : ∀ {f : List Fun} {out : List Proc}, All2 (ProcG ps) f out → out.map (·.params) = f.map (·.params) := by
      intro f out h
      induction h with
      | nil => rfl
      | cons g gs ih => simp only [List.map_cons, g.params, ih]
    exact this (.cons g gs)
/-! What the check of a source says besides. -/
theorem check7_zero (k : Unit → Option Int) : ∀ (l : List Fun) (i : Nat), eachI source_Check_b7 k (i : Int) l () = some 0 → k () = some 0 ∧ (i = 0 → ∀ x r, l = x :: r → x.params ≤ 0)
  | [], i, h => ⟨h, fun _ x r h => by cases h⟩
  | x :: l, i, h => by
    have e : eachI source_Check_b7 k (i : Int) (x :: l) () = source_Check_b7 (i : Int) x () (eachI source_Check_b7 k ((i + 1 : Nat) : Int) l) := rfl
    rw [e] at h
    have ih := check7_zero k l (i + 1)
    generalize eachI source_Check_b7 k ((i + 1 : Nat) : Int) l = nx at ih h
    unfold source_Check_b7 at h
    generalize hA : ((((decide ((x.params : Int) < 0) || decide ((3 : Int) < x.params)) || decide ((x.locals : Int) < x.params)) || decide ((6 : Int) < x.locals)) || (decide ((i : Int) = 0) && decide ((0 : Int) < x.params))) = A at h
    cases A with
    | true => cases h
    | false =>
      simp only [Bool.or_eq_false_iff, Bool.and_eq_false_iff, decide_eq_false_iff_not] at hA
      refine ⟨(ih h).1, fun hi y r hy => ?_⟩
      cases hy
      omega
theorem check5_zero (N : Nat) (hN : 10 ≤ N) (a : List Fun) : ∀ l : List Fun, each (source_Check_b5 N a) source_Check_k6 l () = some 0 → ∀ x ∈ l, cntB 4 x.body ≤ 30
  | [], _, x, hx => by cases hx
  | y :: l, h, x, hx => by
    rw [each_cons'] at h
    have ih := check5_zero N hN a l
    generalize each (source_Check_b5 N a) source_Check_k6 l = nx at ih h
    unfold source_Check_b5 at h
    obtain ⟨q, hq, h⟩ := o_bind h
    obtain ⟨q1, q2⟩ := q
    cases q2 with
    | false => cases h
    | true =>
      simp only [Bool.not_true, cond_false] at h
      obtain ⟨z, hz, h⟩ := o_bind h
      by_cases hz0 : z = 0
      · rw [dF (by omega), cond_false] at h
        rcases List.mem_cons.1 hx with rfl | hx
        · have h1 := count_sum 4 x.body N q1 (by omega) (by decide) hq
          obtain ⟨r, r1, r2, _⟩ := count_tot [] 0 4 x.body N (by omega) (by decide)
          have r1' : source_count N x.body 1 = some r := r1
          rw [hq] at r1'
          cases r1'
          simp only at r2
          omega
        · exact ih h x hx
      · rw [dT hz0, cond_true] at h
        cases h
        exact absurd rfl hz0
theorem check_more {N : Nat} (hN : 10 ≤ N) {f : List Fun} (h : source_Check N f = some 0) : (∀ x r, f = x :: r → x.params ≤ 0) ∧ ∀ x ∈ f, cntB 4 x.body ≤ 30 := by
  unfold source_Check at h
  generalize (decide (((f.length : Int) : Int) = 0) || decide ((4 : Int) < (f.length : Int))) = A at h
  cases A with
  | true => cases h
  | false =>
    rw [cond_false] at h
    have h' : eachI source_Check_b7 (source_Check_k8 N f) ((0 : Nat) : Int) f () = some 0 := h
    obtain ⟨h1, h2⟩ := check7_zero _ f 0 h'
    exact ⟨h2 rfl, check5_zero N hN f f h1⟩
/-! Compiling. -/
theorem compile_loop {f : List Fun} (g : ProgOk f) (hcnt : ∀ x ∈ f, cntB 4 x.body ≤ 30) (N : Nat) (hN : 60 ≤ N) : ∀ (l : List Fun) (acc : List Proc), (∀ x ∈ l, x ∈ f) → acc.length + l.length ≤ 10 → ∃ out, each (code_Compile_b3 N f) code_Compile_k4 l acc = code_Compile_k4 (acc ++ out) ∧ All2 (ProcG (f.map (·.params))) l out
  | [], acc, _, _ => ⟨[], by rw [List.append_nil]; rfl, .nil⟩
  | x :: l, acc, hl, hacc => by
    have hx := hl x (by simp)
    have fx := g.fn x hx
    have h1 := fx.params; have h2 := fx.locals
    simp only [List.length_cons] at hacc
    have hbd : ∀ y ∈ f, 0 ≤ y.params ∧ y.params ≤ 3 := fun y hy => (g.fn y hy).params
    have hM0 : MOk f (code_maker_need ⟨f, [], 0⟩ (x.locals + 1)) := MOk.need (M := ⟨f, [], 0⟩) ⟨rfl, (by intro c hc; cases hc), Int.le_refl 0⟩ _
    have hr0 : (code_maker_need ⟨f, [], 0⟩ (x.locals + 1)).regs = max 0 (x.locals + 1) := rfl
    have hc0 : (code_maker_need ⟨f, [], 0⟩ (x.locals + 1)).code = [] := rfl
    have hct := hcnt x hx
    obtain ⟨M1, e1, r1⟩ := stmts_ok (c := x.locals) rfl hbd g.many.2 (by omega) (by omega) 4 x.body (code_maker_need ⟨f, [], 0⟩ (x.locals + 1)) N fx.body (by omega) hM0 (by rw [hr0]; omega) (by rw [hc0]; simp only [List.length_nil]; omega)
    obtain ⟨new, n1, n2⟩ := r1.new
    have hu := r1.up; have hm := r1.most
    rw [hr0] at hu hm
    rw [hc0, List.nil_append] at n1
    have hlen : M1.code.length ≤ 1500 := by rw [n1]; omega
    have hreg : Reg M1.regs x.locals := ⟨by omega, by omega⟩
    obtain ⟨p1, p2⟩ := put_ok r1.ok (c := ⟨1, x.locals, 0, 0, []⟩) (.inl ⟨rfl, hreg, ⟨by show (-1000000000 : Int) ≤ 0; omega, by show (0 : Int) ≤ 1000000000; omega⟩, rfl, rfl⟩) (by omega)
    obtain ⟨p3, p4⟩ := put_ok p2 (c := ⟨8, x.locals, 0, 0, []⟩) (.inr (.inr (.inr (.inr (.inr (.inr (.inl ⟨.inl rfl, hreg, rfl, rfl, rfl⟩))))))) (by simp; omega)
    rw [each_cons', code_Compile_b3, gI (by omega) (by omega), e1, Option.bind_some, p1, Option.bind_some]
    simp only
    rw [p3, Option.bind_some]
    simp only
    rw [grd_t ⟨by simp only [List.length_singleton]; omega, by simp only [List.length_singleton]; omega⟩]
    obtain ⟨out, e2, a2⟩ := compile_loop g hcnt N hN l (acc ++ [⟨x.params, M1.regs, M1.code ++ [⟨1, x.locals, 0, 0, []⟩] ++ [⟨8, x.locals, 0, 0, []⟩]⟩]) (fun y hy => hl y (List.mem_cons_of_mem _ hy)) (by simp only [List.length_append, List.length_singleton]; omega)
    refine ⟨⟨x.params, M1.regs, M1.code ++ [⟨1, x.locals, 0, 0, []⟩] ++ [⟨8, x.locals, 0, 0, []⟩]⟩ :: out, by rw [e2]; simp, .cons ⟨rfl, ⟨by show x.locals + 1 ≤ M1.regs; omega, by show M1.regs ≤ 40; omega⟩, ⟨by simp, by simp; omega⟩, ⟨_, _, rfl⟩, fun c hc => ?_⟩ a2⟩
    have hc : c ∈ M1.code ++ [⟨1, x.locals, 0, 0, []⟩] ++ [⟨8, x.locals, 0, 0, []⟩] := hc
    show InsG _ M1.regs (((M1.code ++ [(⟨1, x.locals, 0, 0, []⟩ : Ins)] ++ [(⟨8, x.locals, 0, 0, []⟩ : Ins)]).length : Int) - 1) c
    have hL : (((M1.code ++ [(⟨1, x.locals, 0, 0, []⟩ : Ins)] ++ [(⟨8, x.locals, 0, 0, []⟩ : Ins)]).length : Int) - 1) = M1.code.length + 1 := by simp; omega
    rw [hL]
    rcases List.mem_append.1 hc with hc | hc
    · rcases List.mem_append.1 hc with hc | hc
      · exact (r1.ok.ins c hc).up (Int.le_refl _) (by omega)
      · rw [List.mem_singleton.1 hc]
        exact .inl ⟨rfl, hreg, ⟨by show (-1000000000 : Int) ≤ 0; omega, by show (0 : Int) ≤ 1000000000; omega⟩, rfl, rfl⟩
    · rw [List.mem_singleton.1 hc]
      exact .inr (.inr (.inr (.inr (.inr (.inr (.inl ⟨.inl rfl, hreg, rfl, rfl, rfl⟩))))))
theorem compile_ok {f : List Fun} {N : Nat} (hN : 60 ≤ N) (hC : source_Check N f = some 0) (g : ProgOk f) : ∃ out, code_Compile N f = some (out, 0) ∧ code_Check out = some 0 ∧ out.length = f.length ∧ out.map (·.params) = f.map (·.params) := by
  obtain ⟨m1, m2⟩ := check_more (by omega) hC
  obtain ⟨out, e1, a1⟩ := compile_loop g m2 N hN f [] (fun _ h => h) (by have := g.many; simp; omega)
  have hck := check_out rfl g.many a1 (fun x hx => ⟨(g.fn x hx).params, (g.fn x hx).locals.1⟩) (fun x r hf => by have := m1 x r hf; have := (g.fn x (by rw [hf]; simp)).params; omega)
  refine ⟨out, ?_, hck, a1.length_eq.symm, params_eq a1 rfl⟩
  unfold code_Compile
  rw [hC, Option.bind_some, dF (by simp), cond_false, e1, List.nil_append]
  unfold code_Compile_k4
  rw [hck, Option.bind_some, dF (by simp), cond_false]
theorem compile_bad {f : List Fun} {N : Nat} {r : Int} (hC : source_Check N f = some r) (hr : r ≠ 0) : code_Compile N f = some ([], r) := by
  unfold code_Compile
  rw [hC, Option.bind_some, dT hr, cond_true]
theorem made_ok (M : Nat) : wandererlaw_made (M + 60100) = some true := by
  have hC : source_Check (M + 60100) f0 = some 0 := f0_check (M + 60080)
  have hp := parse_text (N := M + 60100) (by omega) f0_ok hC (by rw [f0_text]; decide)
  rw [f0_text] at hp
  obtain ⟨out, c1, c2, c3, c4⟩ := compile_ok (N := M + 60100) (by omega) hC f0_ok
  unfold wandererlaw_made
  rw [hp, Option.bind_some]
  simp only
  rw [c1, Option.bind_some]
  simp only [decide_true, Bool.and_self, cond_true]
  rw [c2, Option.bind_some]
  match out, c3, c4 with
  | [x, y], _, c4 =>
    have hy : y.params = 2 := by simp [f0] at c4; exact c4.2
    have i1 : idx [x, y] 1 = some y := by simp [idx]
    show (bif true then (idx [x, y] 1).bind fun x18 => bif decide ((x18.params : Int) = 2) then (code_Check []).bind fun y29 => some (decide ((y29 : Int) = 2)) else some false else some false) = some true
    rw [cond_true, i1, Option.bind_some, dT hy, cond_true]
    rfl
theorem params_loop (c : List Fun) : ∀ (l : List Proc) (i : Nat), i + l.length = c.length → l.map (·.params) = (c.drop i).map (·.params) → eachI (wandererlaw_CodeSays_b5 c) wandererlaw_CodeSays_k6 (i : Int) l () = some true
  | [], i, _, _ => rfl
  | x :: l, i, hl, h => by
    simp only [List.length_cons] at hl
    have hi : i < c.length := by omega
    have e : eachI (wandererlaw_CodeSays_b5 c) wandererlaw_CodeSays_k6 (i : Int) (x :: l) () = wandererlaw_CodeSays_b5 c (i : Int) x () (eachI (wandererlaw_CodeSays_b5 c) wandererlaw_CodeSays_k6 ((i + 1 : Nat) : Int) l) := rfl
    rw [List.drop_eq_getElem_cons hi, List.map_cons, List.map_cons, List.cons.injEq] at h
    have ih := params_loop c l (i + 1) (by omega) h.2
    rw [e]
    generalize eachI (wandererlaw_CodeSays_b5 c) wandererlaw_CodeSays_k6 ((i + 1 : Nat) : Int) l = nx at ih ⊢
    unfold wandererlaw_CodeSays_b5
    rw [idx_lt hi, Option.bind_some, dF (by have := h.1; omega), cond_false, ih]
theorem codeSays (a b : List Proc) (c : List Fun) : ∃ N, wandererlaw_CodeSays N a b c = some true := by
  obtain ⟨B, hB⟩ := szB c
  refine ⟨B + 60400, ?_⟩
  generalize hN : B + 60400 = N
  obtain ⟨r, h1, h2⟩ := Src.CheckEq c N (fun x hx => by have := hB x hx; omega) (by omega)
  obtain ⟨r', h1', hok⟩ := check_tot N (by omega) c (fun x hx => by have := hB x hx; omega)
  rw [h1] at h1'; cases h1'
  have hm : wandererlaw_made N = some true := by rw [← hN, show B + 60400 = (B + 300) + 60100 by omega]; exact made_ok _
  obtain ⟨y, hy, _⟩ := Cod.check_tot a
  have hy2 : wandererref_CheckCode a = some y := by rw [← Cod.check_eq, hy]
  have hcomp : ∃ out e, code_Compile N c = some (out, e) ∧ e = r ∧ (r ≠ 0 → out = []) ∧ (r = 0 → code_Check out = some 0 ∧ out.length = c.length ∧ out.map (·.params) = c.map (·.params)) := by
    by_cases h0 : r = 0
    · subst h0
      obtain ⟨out, c1, c2, c3, c4⟩ := compile_ok (N := N) (by omega) h1 (hok rfl)
      exact ⟨out, 0, c1, rfl, fun h => absurd rfl h, fun _ => ⟨c2, c3, c4⟩⟩
    · exact ⟨[], r, compile_bad h1 h0, rfl, fun _ => rfl, fun h => absurd h h0⟩
  obtain ⟨out, e, c1, rfl, c2, c3⟩ := hcomp
  unfold wandererlaw_CodeSays
  rw [c1, Option.bind_some, h2, Option.bind_some, hm, Option.bind_some]
  simp only [Bool.not_true, cond_false]
  rw [hy, Option.bind_some, hy2, Option.bind_some, dF (by simp), cond_false, Cod.code_same, Option.bind_some, Cod.ref_same, Option.bind_some, show ((decide (a = b) != decide (a = b)) || decide (e ≠ e)) = false by simp]
  unfold wandererlaw_CodeSays_j2
  rw [cond_false]
  by_cases h0 : e = 0
  · obtain ⟨q1, q2, q3⟩ := c3 h0
    rw [dF (by omega), cond_false]
    have q1' : wandererref_CheckCode out = some 0 := by rw [← Cod.check_eq, q1]
    rw [q1', Option.bind_some, show (decide ((0 : Int) ≠ 0) || decide (((out.length : Int) : Int) ≠ (c.length : Int))) = false by simp only [Bool.or_eq_false_iff, decide_eq_false_iff_not]; omega, cond_false]
    exact params_loop c out 0 (by omega) (by simpa using q3)
  · rw [dT h0, cond_true, c2 h0]
    rfl
end Go.Proofs.YtckocfgmnlhcmaaGreatDoor
