/-
  Plain laws.
-/
import Derived.Test.YtkjajililnbimaaWay
set_option linter.unusedSimpArgs false
set_option linter.unusedVariables false
set_option linter.unusedVariables false
namespace Go.Proofs.Ytkjajililnbimaa
open Go Go.Proofs Go.LX
theorem eqInt (a b : List Int) : slices_Equal_int a b = some (decide (a = b)) := by
  unfold slices_Equal_int
  by_cases h : a.length = b.length
  · rw [show decide (((a.length : Int) : Int) ≠ (b.length : Int)) = false by simp [h]]
    simp only [cond_false, Int.toNat_natCast]
    rw [upto_all2 (fun x y => decide (x = y)) a b h rfl (fun i x y nx h1 h2 => by
      unfold slices_Equal_int_b3
      rw [idx_nat, idx_nat, h1, h2]
      by_cases e : x = y <;> simp [e]), all2_eq (fun _ _ => rfl)]
  · rw [show decide (((a.length : Int) : Int) ≠ (b.length : Int)) = true by simp; omega]
    have : a ≠ b := fun e => h (by rw [e])
    simp [this]
theorem mailEq (x y : Mail) : ((((((decide (x.from_ = y.from_) && decide (x.to_ = y.to_)) && decide (x.co = y.co)) && decide (x.epoch = y.epoch)) && (x.taken == y.taken))) && decide (x.image = y.image)) = decide (x = y) := by
  cases x; cases y; rw [Bool.eq_iff_iff]; simp [and_assoc]
theorem wSame (a b : List Mail) : way_Same a b = some (decide (a = b)) := by
  unfold way_Same
  by_cases h : a.length = b.length
  · rw [show decide (((a.length : Int) : Int) ≠ (b.length : Int)) = false by simp [h]]
    simp only [cond_false]
    rw [eachI_all2 (fun x y => decide (x = y)) a b h rfl (fun i x y nx h2 => by
      unfold way_Same_b23 way_Same_j22
      rw [idx_nat, h2, ← mailEq]
      simp only [bnd, eqInt]
      cases ((((decide (x.from_ = y.from_) && decide (x.to_ = y.to_)) && decide (x.co = y.co)) && decide (x.epoch = y.epoch)) && (x.taken == y.taken)) <;> cases decide (x.image = y.image) <;> rfl), all2_eq (fun _ _ => rfl)]
  · rw [show decide (((a.length : Int) : Int) ≠ (b.length : Int)) = true by simp; omega]
    have : a ≠ b := fun e => h (by rw [e])
    simp [this]
theorem rSame (a b : List Mail) : wandererref_SameMail a b = some (decide (a = b)) := by
  have : wandererref_SameMail = way_Same := rfl
  rw [this, wSame]
theorem wCheck (a : List Mail) : way_Check a = wandererref_CheckMail a := by
  have h : way_Check_b3 = wandererref_CheckMail_b3 := by
    funext x s nx
    unfold way_Check_b3 wandererref_CheckMail_b3 wandererref_in
    have h1 : (((((((decide ((x.from_ : Int) < 0) || decide ((3 : Int) ≤ x.from_)) || decide ((x.to_ : Int) < 0)) || decide ((3 : Int) ≤ x.to_)) || decide ((x.co : Int) < 0)) || decide ((3 : Int) ≤ x.co)) || decide ((x.epoch : Int) < 2)) || decide ((100 : Int) < x.epoch)) = ((((!((decide ((0 : Int) ≤ x.from_) && decide (x.from_ ≤ 2)))) || (!((decide ((0 : Int) ≤ x.to_) && decide (x.to_ ≤ 2))))) || (!((decide ((0 : Int) ≤ x.co) && decide (x.co ≤ 2))))) || (!((decide ((2 : Int) ≤ x.epoch) && decide (x.epoch ≤ 100))))) := by
      rw [Bool.eq_iff_iff]; simp; omega
    rw [h1]
    congr 2
    generalize x.image.length = n
    rcases Nat.eq_zero_or_pos n with h0 | h0
    · subst h0; cases x.taken <;> rfl
    · have e1 : decide ((n : Int) = 0) = false := decide_eq_false (by omega)
      have e2 : decide ((0 : Int) < (n : Int)) = true := decide_eq_true (by omega)
      have e3 : decide ((1 : Int) ≤ (n : Int)) = true := decide_eq_true (by omega)
      rw [e1, e2, e3]
      by_cases h4 : (n : Int) ≤ 1200
      · rw [decide_eq_true h4, decide_eq_false (show ¬ (1200 : Int) < n by omega)]; cases x.taken <;> rfl
      · rw [decide_eq_false h4, decide_eq_true (show (1200 : Int) < n by omega)]; cases x.taken <;> rfl
  unfold way_Check wandererref_CheckMail
  rw [h]; rfl
theorem check_len {a : List Mail} (h : way_Check a = 0) : a.length ≤ 40 ∧ ∀ x ∈ a, x.image.length ≤ 1200 := by
  unfold way_Check at h
  by_cases h1 : (40 : Int) < (a.length : Int)
  · rw [decide_eq_true h1] at h; cases h
  · rw [decide_eq_false h1] at h
    refine ⟨by omega, ?_⟩
    simp only [cond_false] at h
    clear h1
    induction a with
    | nil => intro x hx; cases hx
    | cons y r ih =>
      rw [each_cons] at h
      unfold way_Check_b3 at h
      generalize hA : (((((((decide ((y.from_ : Int) < 0) || decide ((3 : Int) ≤ y.from_)) || decide ((y.to_ : Int) < 0)) || decide ((3 : Int) ≤ y.to_)) || decide ((y.co : Int) < 0)) || decide ((3 : Int) ≤ y.co)) || decide ((y.epoch : Int) < 2)) || decide ((100 : Int) < y.epoch)) = A at h
      cases A with
      | true => cases h
      | false =>
        simp only [cond_false] at h
        generalize hB : ((y.taken != decide (((y.image.length : Int) : Int) = 0)) || decide ((1200 : Int) < (y.image.length : Int))) = B at h
        cases B with
        | true => cases h
        | false =>
          simp only [cond_false] at h
          intro x hx
          rcases List.mem_cons.1 hx with rfl | hx
          · simp only [Bool.or_eq_false_iff, decide_eq_false_iff_not] at hB; omega
          · exact ih h x hx
theorem wCopy {a : List Mail} (h : a.length ≤ 40) (h2 : ∀ x ∈ a, x.image.length ≤ 1200) : way_Copy a = some a := by
  unfold way_Copy
  rw [clone_s (by omega) (by omega)]
  simp only [bnd, Int.toNat_natCast]
  have key : ∀ (m i : Nat), i + m = a.length → upto way_Copy_b3 way_Copy_k4 (i : Int) m a = some a := by
    intro m
    induction m with
    | zero => intro i _; rfl
    | succ m ih =>
      intro i hi
      have h1 : i < a.length := by omega
      show way_Copy_b3 (i : Int) a (upto way_Copy_b3 way_Copy_k4 ((i : Int) + 1) m) = _
      unfold way_Copy_b3
      rw [idx_lt h1]
      have := h2 a[i] (List.getElem_mem h1)
      simp only [bnd]
      rw [clone_s (by omega) (by omega)]
      simp only [bnd, Int.toNat_natCast]
      rw [show ({ a[i] with image := a[i].image } : Mail) = a[i] from rfl, List.set_getElem_self]
      exact ih (i + 1) (by omega)
  simpa using key a.length 0 (by omega)
theorem b_t {p : Prop} [Decidable p] (h : p) : decide p = true := decide_eq_true h
theorem b_f {p : Prop} [Decidable p] (h : ¬ p) : decide p = false := decide_eq_false h
theorem wSend (a : List Mail) (b : Mail) : way_Send a b = some (if way_Check a ≠ 0 then ([], way_Check a) else if way_Check [b] ≠ 0 then ([], way_Check [b]) else (if a.length < 40 then a ++ [b] else a, 0)) := by
  unfold way_Send
  by_cases h1 : way_Check a ≠ 0
  · rw [b_t h1, if_pos h1]; rfl
  · rw [b_f h1, if_neg h1]
    by_cases h2 : way_Check [b] ≠ 0
    · rw [b_t h2, if_pos h2]; rfl
    · rw [b_f h2, if_neg h2]
      have c1 := check_len (Decidable.not_not.1 h1)
      have c2 := check_len (Decidable.not_not.1 h2)
      simp only [cond_false, wCopy c1.1 c1.2, wCopy c2.1 c2.2, bnd]
      by_cases h3 : (a.length : Int) < 40
      · rw [b_t h3, if_pos (by omega)]
        simp only [cond_true]
        exact grd_t (Room.mk (by simp; omega) (by simp; omega))
      · rw [b_f h3, if_neg (by omega)]; rfl
def zMail : Mail := ⟨0, 0, 0, 0, false, []⟩
theorem wTake (a : List Mail) (k : Int) (t : Bool) : way_Take a k t = some (if way_Check a ≠ 0 then ([], zMail, way_Check a) else if k < 0 ∨ (a.length : Int) ≤ k then ([], zMail, 5) else (if t then a else a.take k.toNat ++ a.drop (k.toNat + 1), (a[k.toNat]?).getD zMail, 0)) := by
  unfold way_Take way_Take_j1
  by_cases h1 : way_Check a ≠ 0
  · rw [b_t h1, if_pos h1]; rfl
  · rw [b_f h1, if_neg h1]
    have c1 := check_len (Decidable.not_not.1 h1)
    by_cases h2 : k < 0 ∨ (a.length : Int) ≤ k
    · rw [show (decide (k < 0) || decide ((a.length : Int) ≤ k)) = true by simpa using h2, if_pos h2]; rfl
    · rw [show (decide (k < 0) || decide ((a.length : Int) ≤ k)) = false by simpa using h2, if_neg h2]
      obtain ⟨n, rfl⟩ := Int.eq_ofNat_of_zero_le (show 0 ≤ k by omega)
      have hn : n < a.length := by omega
      simp only [cond_false, wCopy c1.1 c1.2, bnd, Int.toNat_natCast]
      have g1 : I64 ((n : Int) + 1) := I64.mk (by omega) (by omega)
      rw [grd_t g1]
      have e1 : (n : Int) + 1 = ((n + 1 : Nat) : Int) := rfl
      rw [e1, sub_s (by omega) (by omega)]
      have hd := one_at hn
      rw [hd]
      simp only [bnd]
      rw [wCopy (by simp) (by intro x hx; simp at hx; subst hx; exact c1.2 _ (List.getElem_mem hn))]
      simp only [bnd]
      rw [show idx [a[n]] 0 = some a[n] from rfl]
      simp only [bnd, List.getElem?_eq_getElem hn, Option.getD_some]
      cases t with
      | true => simp only [Bool.not_true, cond_false, if_true]
      | false =>
        simp only [Bool.not_false, cond_true]
        rw [grd_t (show I64 (((n + 1 : Nat) : Int)) from I64.mk (by omega) (by omega)), del_s (by omega) (by omega)]
        simp only [bnd, Bool.false_eq_true, if_false]
theorem posted_ok : wandererlaw_posted = some true := by decide +kernel
theorem waySays (a : List Mail) (b : Mail) (k : Int) (t : Bool) (o : List Mail) : wandererlaw_WaySays a b k t o = some true := by
  unfold wandererlaw_WaySays
  simp only [wSend, wTake, posted_ok, bnd, wSame, rSame, ← wCheck]
  rw [show (!true || decide (way_Check a ≠ way_Check a)) = false by simp]
  simp only [cond_false]
  unfold wandererlaw_WaySays_j2
  rw [show (decide (a = o) != decide (a = o)) = false by simp]
  simp only [cond_false, ← wCheck]
  by_cases h1 : way_Check a = 0
  · have c1 := check_len h1
    rw [b_t h1]
    simp only [cond_true, h1, ne_eq, not_true_eq_false, if_false]
    unfold wandererlaw_WaySays_j3
    generalize hA : (if ¬way_Check [b] = 0 then (([] : List Mail), way_Check [b]) else (if a.length < 40 then a ++ [b] else a, (0 : Int))) = A
    have key : ∀ x, x = (if a.length < 40 then a ++ [b] else a) → wandererlaw_WaySays_j4 A (way_Check [b]) a k (if k < 0 ∨ (a.length : Int) ≤ k then ([], zMail, 5) else (if t = true then a else a.take k.toNat ++ a.drop (k.toNat + 1), (a[k.toNat]?).getD zMail, 0)) t x = some true := by
      intro x hx
      unfold wandererlaw_WaySays_j4
      have hj6 : wandererlaw_WaySays_j6 a k (if k < 0 ∨ (a.length : Int) ≤ k then ([], zMail, 5) else (if t = true then a else a.take k.toNat ++ a.drop (k.toNat + 1), (a[k.toNat]?).getD zMail, 0)) t false = some true := by
        unfold wandererlaw_WaySays_j6
        simp only [cond_false, ← wCheck, h1]
        by_cases h2 : k < 0 ∨ (a.length : Int) ≤ k
        · rw [show (decide True && (decide (k < 0) || decide ((a.length : Int) ≤ k))) = true by simpa using h2, if_pos h2]
          unfold wandererlaw_WaySays_j7
          simp only [rSame]
          simp [zMail]
        · rw [show (decide True && (decide (k < 0) || decide ((a.length : Int) ≤ k))) = false by simpa using h2, if_neg h2]
          unfold wandererlaw_WaySays_j7
          rw [clone_s (by omega) (by omega)]
          obtain ⟨n, rfl⟩ := Int.eq_ofNat_of_zero_le (show 0 ≤ k by omega)
          have hn : n < a.length := by omega
          have hd := one_at hn
          have g1 : I64 ((n : Int) + 1) := I64.mk (by omega) (by omega)
          unfold wandererlaw_WaySays_j8
          have e1 : ((n : Int) + 1) = ((n + 1 : Nat) : Int) := rfl
          simp only [cond_false, bnd, grd_t g1, Int.toNat_natCast, List.getElem?_eq_getElem hn, Option.getD_some]
          rw [e1, sub_s (by omega) (by omega), del_s (by omega) (by omega), hd]
          simp only [bnd, rSame]
          cases t <;> simp
      by_cases h3 : way_Check [b] = 0
      · simp only [h3, not_true_eq_false, if_false] at hA
        subst hA
        simp only [h3, hx]
        simp [rSame, hj6]
      · simp only [h3, not_false_eq_true, if_true] at hA
        subst hA
        simp [h3, hj6]
    by_cases h4 : (a.length : Int) < 40
    · rw [b_t h4]
      simp only [cond_true]
      rw [clone_s (by omega) (by omega)]
      simp only [bnd]
      rw [grd_t (Room.mk (by simp; omega) (by simp; omega))]
      exact key _ (by rw [if_pos (by omega)])
    · rw [b_f h4]
      exact key _ (by rw [if_neg (by omega)])
  · rw [b_f h1]
    simp only [cond_false, ne_eq, h1, not_false_eq_true, if_true]
    unfold wandererlaw_WaySays_j3
    have key : ∀ x, wandererlaw_WaySays_j4 (([] : List Mail), way_Check a) (way_Check a) a k ([], zMail, way_Check a) t x = some true := by
      intro x
      unfold wandererlaw_WaySays_j4 wandererlaw_WaySays_j6 wandererlaw_WaySays_j7
      simp [h1, ← wCheck, rSame, zMail]
    by_cases h4 : (a.length : Int) < 40
    · rw [b_t h4]
      simp only [cond_true]
      rw [clone_s (by omega) (by omega)]
      simp only [bnd]
      rw [grd_t (Room.mk (by simp; omega) (by simp; omega))]
      exact key _
    · rw [b_f h4]; exact key _
theorem at_s (k : Int) (n : Nat) (h : 0 < n) (h2 : n ≤ 1000) : ∃ i : Nat, i < n ∧ wandererlaw_at k (n : Int) = some (i : Int) := by
  unfold wandererlaw_at
  rw [grd_t (by omega)]
  have h3 := Int.tmod_lt_of_pos k (show (0 : Int) < n by omega)
  have h4 : -(n : Int) < Int.tmod k n := by
    rcases Int.le_total 0 k with h | h
    · have := Int.tmod_nonneg (n : Int) h; omega
    · have h5 := Int.tmod_lt_of_pos (-k) (show (0 : Int) < n by omega)
      rw [Int.neg_tmod] at h5
      omega
  by_cases h5 : Int.tmod k n < 0
  · refine ⟨(Int.tmod k n + n).toNat, by omega, ?_⟩
    rw [b_t h5, cond_true, grd_t (I64.mk (by omega) (by omega))]
    congr 1; omega
  · refine ⟨(Int.tmod k n).toNat, by omega, ?_⟩
    rw [b_f h5, cond_false]
    congr 1; omega
theorem wayBack (a : List Mail) (b : Mail) (k : Int) : wandererlaw_WayBack a b k = some true := by
  unfold wandererlaw_WayBack
  simp only [wSend, posted_ok, bnd, wSame]
  by_cases h1 : way_Check a = 0
  · by_cases h2 : way_Check [b] = 0
    · have c1 := check_len h1
      simp only [h1, h2, ne_eq, not_true_eq_false, if_false]
      rw [show (!true || decide False) = false by rfl]
      simp only [cond_false]
      by_cases h3 : (a.length : Int) = 40
      · rw [b_t h3, if_neg (by omega)]; simp
      · rw [b_f h3, if_pos (by omega)]
        have h4 : way_Check (a ++ [b]) = 0 := by
          unfold way_Check at h1 h2 ⊢
          rw [b_f (show ¬ (40 : Int) < ((a ++ [b]).length : Int) by simp; omega)]
          rw [b_f (show ¬ (40 : Int) < (a.length : Int) by omega)] at h1
          rw [b_f (show ¬ (40 : Int) < ([b].length : Int) by simp)] at h2
          simp only [cond_false] at h1 h2 ⊢
          clear c1 h3
          induction a with
          | nil => exact h2
          | cons x r ih =>
            rw [List.cons_append, each_cons]
            rw [each_cons] at h1
            unfold way_Check_b3 at h1 ⊢
            generalize (((((((decide ((x.from_ : Int) < 0) || decide ((3 : Int) ≤ x.from_)) || decide ((x.to_ : Int) < 0)) || decide ((3 : Int) ≤ x.to_)) || decide ((x.co : Int) < 0)) || decide ((3 : Int) ≤ x.co)) || decide ((x.epoch : Int) < 2)) || decide ((100 : Int) < x.epoch)) = A at h1 ⊢
            generalize ((x.taken != decide (((x.image.length : Int) : Int) = 0)) || decide ((1200 : Int) < (x.image.length : Int))) = B at h1 ⊢
            cases A with
            | true => cases h1
            | false =>
              cases B with
              | true => cases h1
              | false => exact ih h1
        simp only [cond_false, wTake, h4, ne_eq, not_true_eq_false, if_false, bnd]
        rw [if_neg (by simp; omega)]
        simp only [Int.toNat_natCast]
        rw [show decide (¬True) = false from rfl]
        simp only [cond_false]
        have e1 : (a ++ [b]).take a.length ++ (a ++ [b]).drop (a.length + 1) = a := by simp
        have e2 : (a ++ [b])[a.length]? = some b := by simp
        simp only [Bool.false_eq_true, if_false, e1, e2, Option.getD_some, wSame, decide_true, Bool.not_true, cond_false, bnd]
        unfold wandererlaw_WayBack_j2
        simp only [cond_false]
        obtain ⟨i, hi, he⟩ := at_s k (a ++ [b]).length (by simp) (by simp; omega)
        rw [he]
        simp only [bnd, wTake, h4, ne_eq, not_true_eq_false, if_false]
        rw [if_neg (by omega)]
        simp only [if_true, wSame, bnd, decide_true, cond_true, Int.toNat_natCast]
        rw [grd_t (show I64 ((i : Int) + 1) from I64.mk (by omega) (by simp at hi; omega)), show ((i : Int) + 1) = ((i + 1 : Nat) : Int) from rfl, sub_s (by omega) (by omega)]
        have hd := one_at hi
        rw [hd]
        simp [List.getElem?_eq_getElem hi]
    · simp [h1, h2]
  · simp [h1]
end Go.Proofs.Ytkjajililnbimaa
