/-
  Plain laws.
-/
import Derived.Test.YtkjajililnbimaaPlc
set_option linter.unusedSimpArgs false
set_option linter.unusedVariables false
namespace Go.Proofs.Ytkjajililnbimaa
open Go Go.Proofs Go.LX
theorem eqInt (a b : List Int) : slices_Equal_int a b = some (decide (a = b)) := by
  unfold slices_Equal_int
  by_cases h : a.length = b.length
  · rw [dF (by omega)]
    simp only [cond_false, Int.toNat_natCast]
    rw [upto_all2 (fun x y => decide (x = y)) a b h rfl (fun i x y nx h1 h2 => by
      unfold slices_Equal_int_b3
      rw [idx_nat, idx_nat, h1, h2]
      by_cases e : x = y <;> simp [e]), all2_eq (fun _ _ => rfl)]
  · rw [dT (by omega)]
    have : a ≠ b := fun e => h (by rw [e])
    rw [dF this]; rfl
theorem coSame (a b : List Co) : place_Same a b = some (decide (a = b)) := by
  unfold place_Same
  by_cases h : a.length = b.length
  · rw [dF (by omega)]
    simp only [cond_false]
    rw [eachI_all2 (fun x y => decide (x = y)) a b h rfl (fun i x y nx h2 => by
      unfold place_Same_b23 place_Same_j22
      rw [idx_nat, h2]
      simp only [bnd, eqInt]
      have e : (((decide (x.id_ = y.id_) && decide (x.epoch = y.epoch)) && decide (x.offered = y.offered)) && decide (x.image = y.image)) = decide (x = y) := by
        cases x; cases y; rw [Bool.eq_iff_iff]; simp; exact ⟨fun ⟨⟨⟨h1, h2⟩, h3⟩, h4⟩ => ⟨h1, h2, h4, h3⟩, fun ⟨h1, h2, h4, h3⟩ => ⟨⟨⟨h1, h2⟩, h3⟩, h4⟩⟩
      rw [← e]
      cases ((decide (x.id_ = y.id_) && decide (x.epoch = y.epoch)) && decide (x.offered = y.offered)) <;> cases decide (x.image = y.image) <;> rfl), all2_eq (fun _ _ => rfl)]
  · rw [dT (by omega)]
    have : a ≠ b := fun e => h (by rw [e])
    rw [dF this]; rfl
theorem coSame2 (a b : List Co) : wandererref_SameCos a b = some (decide (a = b)) := by
  have : wandererref_SameCos = place_Same := rfl
  rw [this, coSame]
def coOk (x : Co) : Prop := 0 ≤ x.id_ ∧ x.id_ ≤ 2 ∧ 1 ≤ x.epoch ∧ x.epoch ≤ 100 ∧ -1 ≤ x.offered ∧ x.offered ≤ 2 ∧ 1 ≤ x.image.length ∧ x.image.length ≤ 1200
def rg (x : Co) : Bool := (((((decide ((x.id_ : Int) < 0) || decide ((3 : Int) ≤ x.id_)) || decide ((x.epoch : Int) < 1)) || decide ((100 : Int) < x.epoch)) || decide ((x.offered : Int) < -1)) || decide ((3 : Int) ≤ x.offered))
def mn (x : Co) : Bool := (decide (((x.image.length : Int) : Int) = 0) || decide ((1200 : Int) < (x.image.length : Int)))
theorem rg_eq (x : Co) : (((!(wandererref_in x.id_ 0 2)) || (!(wandererref_in x.epoch 1 100))) || (!(wandererref_in x.offered (-1) 2))) = rg x := by
  unfold wandererref_in rg; rw [Bool.eq_iff_iff]; simp; omega
theorem mn_eq (x : Co) : (!(wandererref_in (x.image.length : Int) 1 1200)) = mn x := by
  have hn : 0 ≤ (x.image.length : Int) := by omega
  unfold wandererref_in mn
  generalize (x.image.length : Int) = n at hn ⊢
  rw [Bool.eq_iff_iff]; simp; omega
theorem coOk_iff (x : Co) : coOk x ↔ rg x = false ∧ mn x = false := by
  have hn : 0 ≤ (x.image.length : Int) := by omega
  unfold coOk rg mn
  rw [show (1 ≤ x.image.length) = (1 ≤ (x.image.length : Int)) by simp; omega, show (x.image.length ≤ 1200) = ((x.image.length : Int) ≤ 1200) by simp; omega]
  generalize (x.image.length : Int) = n at hn ⊢
  simp
  omega
theorem chkEq (a : List Co) : place_Check a = some (wandererref_CheckCos a) := by
  unfold place_Check wandererref_CheckCos
  by_cases h : (3 : Int) < (a.length : Int)
  · rw [dT h]; rfl
  · rw [dF h]
    simp only [cond_false]
    have key : ∀ (k : List Co) (i : Nat) (last : Int), (∀ j, k[j]? = a[i + j]?) → (i = 0 → last = -1) → (∀ j, i = j + 1 → ∃ y, a[j]? = some y ∧ y.id_ = last) → i ≤ a.length → eachI (place_Check_b11 a) place_Check_k12 (i : Int) k () = some (each wandererref_CheckCos_b3 wandererref_CheckCos_k4 k last) := by
      intro k
      induction k with
      | nil => intro i last _ _ _ _; rfl
      | cons x k ih =>
        intro i last hk h0 h1 hi
        rw [eachI_cons, each_cons]
        have hx : a[i]? = some x := by have := hk 0; simpa using this.symm
        have hi2 : i < a.length := by
          rcases Nat.lt_or_ge i a.length with h | h
          · exact h
          · rw [List.getElem?_eq_none h] at hx; cases hx
        have ih2 := ih (i + 1) x.id_ (fun j => by have := hk (j + 1); simpa [Nat.add_assoc, Nat.add_comm 1 j] using this) (by omega) (fun j hj => ⟨x, by rw [show j = i by omega]; exact hx, rfl⟩) (by omega)
        rw [show ((i + 1 : Nat) : Int) = (i : Int) + 1 from rfl] at ih2
        generalize eachI (place_Check_b11 a) place_Check_k12 ((i : Int) + 1) k = nx at ih2 ⊢
        generalize each wandererref_CheckCos_b3 wandererref_CheckCos_k4 k = nx2 at ih2 ⊢
        unfold place_Check_b11 wandererref_CheckCos_b3
        rw [rg_eq, mn_eq, ← rg, ← mn]
        cases hr : rg x with
        | true => rfl
        | false =>
        cases hm : mn x with
        | true => rfl
        | false =>
        have hok := (coOk_iff x).2 ⟨hr, hm⟩
        simp only [cond_false]
        unfold place_Check_j10
        cases i with
        | zero =>
          rw [h0 rfl, dF (show ¬ x.id_ ≤ -1 by have := hok.1; omega)]
          simpa using ih2
        | succ j =>
          obtain ⟨y, hy, hyl⟩ := h1 j rfl
          rw [dT (show (0 : Int) < ((j + 1 : Nat) : Int) by omega), show ((j + 1 : Nat) : Int) - 1 = (j : Int) by omega, gI, idx_nat, hy]
          simp only [cond_true, bnd, hyl]
          cases decide (x.id_ ≤ last) with
          | true => rfl
          | false => exact ih2
    exact key a 0 (-1) (fun j => by simp) (fun _ => rfl) (fun j hj => by omega) (by omega)
theorem rec_eq (r : Rec) : record_Check r = wandererref_CheckRec r := by
  unfold record_Check wandererref_CheckRec wandererref_CheckRec_1_80 wandererref_CheckRec_1_83 wandererref_CheckRec_1_73 wandererref_CheckRec_j2
  have e1 : (((!(wandererref_in r.co 0 2)) || (!(wandererref_in r.epoch 0 100))) || (!(wandererref_in r.place 0 2))) = (((((decide ((r.co : Int) < 0) || decide ((3 : Int) ≤ r.co)) || decide ((r.epoch : Int) < 0)) || decide ((100 : Int) < r.epoch)) || decide ((r.place : Int) < 0)) || decide ((3 : Int) ≤ r.place)) := by
    unfold wandererref_in; rw [Bool.eq_iff_iff]; simp; omega
  rw [e1]
  generalize (((((decide ((r.co : Int) < 0) || decide ((3 : Int) ≤ r.co)) || decide ((r.epoch : Int) < 0)) || decide ((100 : Int) < r.epoch)) || decide ((r.place : Int) < 0)) || decide ((3 : Int) ≤ r.place)) = C1
  generalize (decide ((40 : Int) < (r.says.length : Int)) || decide ((1200 : Int) < (r.image.length : Int))) = C2
  generalize decide ((r.place : Int) ≠ 0) = p0
  generalize decide ((0 : Int) < (r.says.length : Int)) = s1
  generalize decide ((0 : Int) < (r.image.length : Int)) = i1
  generalize decide ((r.epoch : Int) = 0) = e0
  have f73 : ∀ l : Str, (hasB l 73 = true ∨ hasB l 73 = false) := fun l => by cases hasB l 73 <;> simp
  by_cases k1 : r.kind = 1
  · rw [k1, show hasB ((lk (1 : Int) ([(1, [73]), (2, [83, 73]), (3, [80]), (4, [73]), (5, [])] : List (Int × Str))).getD []) 80 = false by decide, show hasB ((lk (1 : Int) ([(1, [73]), (2, [83, 73]), (3, [80]), (4, [73]), (5, [])] : List (Int × Str))).getD []) 83 = false by decide, show hasB ((lk (1 : Int) ([(1, [73]), (2, [83, 73]), (3, [80]), (4, [73]), (5, [])] : List (Int × Str))).getD []) 73 = true by decide]
    cases C1 <;> cases C2 <;> cases p0 <;> cases s1 <;> cases i1 <;> cases e0 <;> rfl
  by_cases k2 : r.kind = 2
  · rw [k2, show hasB ((lk (2 : Int) ([(1, [73]), (2, [83, 73]), (3, [80]), (4, [73]), (5, [])] : List (Int × Str))).getD []) 80 = false by decide, show hasB ((lk (2 : Int) ([(1, [73]), (2, [83, 73]), (3, [80]), (4, [73]), (5, [])] : List (Int × Str))).getD []) 83 = true by decide, show hasB ((lk (2 : Int) ([(1, [73]), (2, [83, 73]), (3, [80]), (4, [73]), (5, [])] : List (Int × Str))).getD []) 73 = true by decide]
    cases C1 <;> cases C2 <;> cases p0 <;> cases s1 <;> cases i1 <;> cases e0 <;> rfl
  by_cases k3 : r.kind = 3
  · rw [k3, show hasB ((lk (3 : Int) ([(1, [73]), (2, [83, 73]), (3, [80]), (4, [73]), (5, [])] : List (Int × Str))).getD []) 80 = true by decide, show hasB ((lk (3 : Int) ([(1, [73]), (2, [83, 73]), (3, [80]), (4, [73]), (5, [])] : List (Int × Str))).getD []) 83 = false by decide, show hasB ((lk (3 : Int) ([(1, [73]), (2, [83, 73]), (3, [80]), (4, [73]), (5, [])] : List (Int × Str))).getD []) 73 = false by decide]
    cases C1 <;> cases C2 <;> cases p0 <;> cases s1 <;> cases i1 <;> cases e0 <;> rfl
  by_cases k4 : r.kind = 4
  · rw [k4, show hasB ((lk (4 : Int) ([(1, [73]), (2, [83, 73]), (3, [80]), (4, [73]), (5, [])] : List (Int × Str))).getD []) 80 = false by decide, show hasB ((lk (4 : Int) ([(1, [73]), (2, [83, 73]), (3, [80]), (4, [73]), (5, [])] : List (Int × Str))).getD []) 83 = false by decide, show hasB ((lk (4 : Int) ([(1, [73]), (2, [83, 73]), (3, [80]), (4, [73]), (5, [])] : List (Int × Str))).getD []) 73 = true by decide]
    cases C1 <;> cases C2 <;> cases p0 <;> cases s1 <;> cases i1 <;> cases e0 <;> rfl
  by_cases k5 : r.kind = 5
  · rw [k5, show hasB ((lk (5 : Int) ([(1, [73]), (2, [83, 73]), (3, [80]), (4, [73]), (5, [])] : List (Int × Str))).getD []) 80 = false by decide, show hasB ((lk (5 : Int) ([(1, [73]), (2, [83, 73]), (3, [80]), (4, [73]), (5, [])] : List (Int × Str))).getD []) 83 = false by decide, show hasB ((lk (5 : Int) ([(1, [73]), (2, [83, 73]), (3, [80]), (4, [73]), (5, [])] : List (Int × Str))).getD []) 73 = false by decide]
    cases C1 <;> cases C2 <;> cases p0 <;> cases s1 <;> cases i1 <;> cases e0 <;> rfl
  rw [show lk r.kind ([(1, [73]), (2, [83, 73]), (3, [80]), (4, [73]), (5, [])] : List (Int × Str)) = none by simp [lk, k1, k2, k3, k4, k5]]
  rw [show (decide ((r.kind : Int) < 1) || decide ((5 : Int) < r.kind)) = true by simp; omega]
  rfl
end Go.Proofs.Ytkjajililnbimaa

namespace Go.Proofs.Ytkjajililnbimaa
open Go Go.Proofs Go.LX
abbrev Up (l : List Co) : Prop := l.Pairwise (fun x y => x.id_ < y.id_)
theorem each_ok : ∀ (l : List Co) (last : Int), each wandererref_CheckCos_b3 wandererref_CheckCos_k4 l last = 0 ↔ (∀ x ∈ l, coOk x) ∧ Up l ∧ ∀ x ∈ l, last < x.id_
  | [], last => by simp [each_nil, wandererref_CheckCos_k4]
  | x :: r, last => by
    rw [each_cons]
    have ih := each_ok r x.id_
    generalize each wandererref_CheckCos_b3 wandererref_CheckCos_k4 r = nx at ih ⊢
    unfold wandererref_CheckCos_b3
    rw [rg_eq, mn_eq]
    have hok := coOk_iff x
    cases hr : rg x with
    | true =>
      simp only [cond_true]
      constructor
      · intro h; exact absurd h (by decide)
      · intro h; have := (hok.1 (h.1 x List.mem_cons_self)).1; rw [hr] at this; cases this
    | false =>
    cases hm : mn x with
    | true =>
      simp only [cond_true, cond_false]
      constructor
      · intro h; exact absurd h (by decide)
      · intro h; have := (hok.1 (h.1 x List.mem_cons_self)).2; rw [hm] at this; cases this
    | false =>
    have ho := hok.2 ⟨hr, hm⟩
    simp only [cond_false]
    by_cases hl : x.id_ ≤ last
    · rw [dT hl]
      simp only [cond_true]
      constructor
      · intro h; exact absurd h (by decide)
      · intro h; have := h.2.2 x List.mem_cons_self; omega
    · rw [dF hl]
      simp only [cond_false]
      rw [ih]
      show _ ↔ _ ∧ List.Pairwise _ (x :: r) ∧ _
      rw [List.pairwise_cons]
      constructor
      · rintro ⟨h1, h2, h3⟩
        refine ⟨?_, ⟨h3, h2⟩, ?_⟩
        · intro y hy
          rcases List.mem_cons.1 hy with rfl | hy
          · exact ho
          · exact h1 y hy
        · intro y hy
          rcases List.mem_cons.1 hy with rfl | hy
          · omega
          · have := h3 y hy; omega
      · rintro ⟨h1, ⟨h2, h3⟩, h4⟩
        exact ⟨fun y hy => h1 y (List.mem_cons_of_mem _ hy), h3, h2⟩
structure Good (l : List Co) : Prop where
  len : l.length ≤ 3
  ok : ∀ x ∈ l, coOk x
  up : Up l
theorem good_iff (l : List Co) : wandererref_CheckCos l = 0 ↔ Good l := by
  unfold wandererref_CheckCos
  by_cases h : (3 : Int) < (l.length : Int)
  · rw [dT h]
    simp only [cond_true]
    exact ⟨fun h => absurd h (by decide), fun g => by have := g.len; omega⟩
  · rw [dF h]
    simp only [cond_false]
    rw [each_ok]
    exact ⟨fun ⟨h1, h2, _⟩ => ⟨by omega, h1, h2⟩, fun g => ⟨g.ok, g.up, fun x hx => by have := (g.ok x hx).1; omega⟩⟩
/-- One more, by number. -/
def insC (c : Co) : List Co → List Co
  | [] => [c]
  | x :: r => if x.id_ < c.id_ then x :: insC c r else c :: x :: r
def oth (b : Rec) (l : List Co) : List Co := l.filter fun x => decide (x.id_ ≠ b.co)
def hereOf (b : Rec) (l : List Co) : Option Co := l.find? fun x => decide (x.id_ = b.co)
structure GoodR (r : Rec) : Prop where
  kind : 1 ≤ r.kind ∧ r.kind ≤ 5
  co : 0 ≤ r.co ∧ r.co ≤ 2
  epoch : 1 ≤ r.epoch ∧ r.epoch ≤ 100
  place : 0 ≤ r.place ∧ r.place ≤ 2
  image : r.image.length ≤ 1200
  has : (r.kind = 1 ∨ r.kind = 2 ∨ r.kind = 4) → 1 ≤ r.image.length
theorem goodR (r : Rec) (h : wandererref_CheckRec r = 0) : GoodR r := by
  rw [← rec_eq] at h
  unfold record_Check at h
  have hn : 0 ≤ (r.image.length : Int) := by omega
  generalize hA : (decide ((r.kind : Int) < 1) || decide ((5 : Int) < r.kind)) = A at h
  cases A with
  | true => simp only [cond_true] at h; exact absurd h (by decide)
  | false =>
  simp only [cond_false] at h
  generalize hB : (((((decide ((r.co : Int) < 0) || decide ((3 : Int) ≤ r.co)) || decide ((r.epoch : Int) < 0)) || decide ((100 : Int) < r.epoch)) || decide ((r.place : Int) < 0)) || decide ((3 : Int) ≤ r.place)) = B at h
  cases B with
  | true => simp only [cond_true] at h; exact absurd h (by decide)
  | false =>
  simp only [cond_false] at h
  generalize hC : (decide ((40 : Int) < (r.says.length : Int)) || decide ((1200 : Int) < (r.image.length : Int))) = C at h
  cases C with
  | true => simp only [cond_true] at h; exact absurd h (by decide)
  | false =>
  simp only [cond_false] at h
  generalize hD : ((((decide ((r.kind : Int) ≠ 3) && decide ((r.place : Int) ≠ 0)) || (decide ((r.kind : Int) ≠ 2) && decide ((0 : Int) < (r.says.length : Int)))) || (((decide ((r.kind : Int) = 1) || decide ((r.kind : Int) = 2)) || decide ((r.kind : Int) = 4)) != decide ((0 : Int) < (r.image.length : Int)))) || decide ((r.epoch : Int) = 0)) = D at h
  cases D with
  | true => simp only [cond_true] at h; exact absurd h (by decide)
  | false =>
  simp only [Bool.or_eq_false_iff, decide_eq_false_iff_not, bne_eq_false_iff_eq] at hA hB hC hD
  obtain ⟨⟨⟨_, _⟩, h3⟩, h4⟩ := hD
  refine ⟨by omega, by omega, by omega, by omega, by omega, fun hk => ?_⟩
  have : ((decide ((r.kind : Int) = 1) || decide ((r.kind : Int) = 2)) || decide ((r.kind : Int) = 4)) = true := by
    simp; omega
  rw [this] at h3
  have h5 : decide ((0 : Int) < (r.image.length : Int)) = true := by
    cases hq : decide ((0 : Int) < (r.image.length : Int)) with
    | true => rfl
    | false => rw [hq] at h3; cases h3
  have := of_decide_eq_true h5
  omega
/-- What a record makes of what is there. -/
def pNext (a : List Co) (b : Rec) : List Co × Int :=
  if wandererref_CheckCos a ≠ 0 then ([], wandererref_CheckCos a) else if wandererref_CheckRec b ≠ 0 then ([], wandererref_CheckRec b) else
  match hereOf b a with
  | none => if b.kind = 1 ∨ b.kind = 4 then (if (decide (b.epoch = 1) != decide (b.kind = 1)) = true then ([], 7) else (insC ⟨b.co, b.epoch, b.image, -1⟩ (oth b a), 0)) else ([], 5)
  | some c => if b.kind = 1 ∨ b.kind = 4 then ([], 6) else if (decide (b.epoch ≠ c.epoch) || (decide (c.offered ≠ -1) != decide (b.kind = 5))) = true then ([], 7) else
    if b.kind = 5 then (oth b a, 0) else if b.kind = 2 then (insC ⟨c.id_, c.epoch, b.image, c.offered⟩ (oth b a), 0) else if c.epoch = 100 then ([], 2) else (insC ⟨c.id_, c.epoch, c.image, b.place⟩ (oth b a), 0)
-- the document's way
theorem lt_id {x y : Co} (hx : 0 ≤ x.id_ ∧ x.id_ ≤ 2) (hy : 0 ≤ y.id_ ∧ y.id_ ≤ 2) : lt102 x y = decide (x.id_ < y.id_) := by
  unfold lt102 cf102
  rw [show RowKit.wrap64 (x.id_ - y.id_) = x.id_ - y.id_ by unfold RowKit.wrap64; omega, decide_eq_decide]
  omega
theorem sort_few (o : List Co) (c : Co) (ho : o.length ≤ 3) (hu : Up o) (hid : ∀ x ∈ o, 0 ≤ x.id_ ∧ x.id_ ≤ 2) (hc : 0 ≤ c.id_ ∧ c.id_ ≤ 2) (hne : ∀ x ∈ o, x.id_ ≠ c.id_) : sortF lt102 (o ++ [c]) = insC c o := by
  unfold sortF Sort.insertionSort
  match o, ho, hu, hid, hne with
  | [], _, _, _, _ =>
    rw [Sort.insOuter.eq_def]; simp [insC]
  | [x], _, _, hid, hne =>
    have hx := hid x (by simp)
    have n1 := hne x (by simp)
    rw [Sort.insOuter.eq_def, Sort.insOuter.eq_def]
    simp [Sort.insInner, insC, lt_id hc hx, Sort.swp]
    by_cases h : c.id_ < x.id_
    · rw [if_pos h, if_neg (by omega)]
    · rw [if_neg h, if_pos (by omega)]
  | [x, y], _, hu, hid, hne =>
    have hx := hid x (by simp)
    have hy := hid y (by simp)
    have n1 := hne x (by simp)
    have n2 := hne y (by simp)
    have hxy : x.id_ < y.id_ := by simp [Up] at hu; exact hu
    rw [Sort.insOuter.eq_def, Sort.insOuter.eq_def, Sort.insOuter.eq_def]
    simp [Sort.insInner, insC, lt_id hc hx, lt_id hc hy, lt_id hy hx, Sort.swp, show ¬ y.id_ < x.id_ by omega]
    by_cases h : c.id_ < y.id_
    · by_cases h2 : c.id_ < x.id_
      · simp [h, h2, lt_id hc hx, show ¬ x.id_ < c.id_ by omega]
      · simp [h, h2, lt_id hc hx, show x.id_ < c.id_ by omega, show ¬ y.id_ < c.id_ by omega]
    · simp [h, show x.id_ < c.id_ by omega, show y.id_ < c.id_ by omega]
  | [x, y, z], _, hu, hid, hne =>
    have hx := hid x (by simp)
    have hy := hid y (by simp)
    have hz := hid z (by simp)
    have n1 := hne x (by simp)
    have n2 := hne y (by simp)
    have n3 := hne z (by simp)
    simp [Up] at hu
    omega
  | x :: y :: z :: u :: r, h, _, _, _ => simp at h
/-- The others, and the one. -/
theorem fold_next (b : Rec) : ∀ (l : List Co) (h : Option Co) (o : List Co), l.Pairwise (fun x y => x.id_ ≠ y.id_) → (∀ y, h = some y → ∀ x ∈ l, x.id_ ≠ b.co) → o.length + l.length ≤ 3 →
    each (wandererref_Nexted_b12 b) (wandererref_Nexted_k13 b) l (h, o) = wandererref_Nexted_k13 b ((match hereOf b l with | some x => some x | none => h), o ++ oth b l)
  | [], h, o, _, _, _ => by simp [each_nil, hereOf, oth]
  | x :: r, h, o, hp, hh, hl => by
    rw [List.pairwise_cons] at hp
    simp only [List.length_cons] at hl
    rw [each_cons]
    have ih := fold_next b r
    generalize each (wandererref_Nexted_b12 b) (wandererref_Nexted_k13 b) r = nx at ih ⊢
    unfold wandererref_Nexted_b12 wandererref_Nexted_j8
    simp only
    by_cases hx : x.id_ = b.co
    · rw [dT hx]
      simp only [cond_true]
      have hr : ∀ y ∈ r, y.id_ ≠ b.co := fun y hy e => hp.1 y hy (hx.trans e.symm)
      rw [ih (some x) o hp.2 (fun _ _ => hr) (by omega)]
      have e1 : hereOf b r = none := by
        unfold hereOf; rw [List.find?_eq_none]; intro y hy; simpa using hr y hy
      have e2 : hereOf b (x :: r) = some x := by unfold hereOf; rw [List.find?_cons]; simp [hx]
      have e3 : oth b (x :: r) = oth b r := by unfold oth; rw [List.filter_cons]; simp [hx]
      rw [e1, e2, e3]
    · rw [dF hx]
      simp only [cond_false]
      rw [grd_t (Room.mk (by simp; omega) (by simp; omega)), ih h (o ++ [x]) hp.2 (fun y hy z hz => hh y hy z (List.mem_cons_of_mem _ hz)) (by simp; omega)]
      have e2 : hereOf b (x :: r) = hereOf b r := by unfold hereOf; rw [List.find?_cons]; simp [hx]
      have e3 : oth b (x :: r) = x :: oth b r := by unfold oth; rw [List.filter_cons]; simp [hx]
      rw [e2, e3, List.append_assoc, List.singleton_append]
theorem oth_len (b : Rec) (l : List Co) : (oth b l).length ≤ l.length := List.length_filter_le _ _
theorem oth_up (b : Rec) {l : List Co} (h : Up l) : Up (oth b l) := h.filter _
theorem oth_mem {b : Rec} {l : List Co} {x : Co} (h : x ∈ oth b l) : x ∈ l ∧ x.id_ ≠ b.co := by
  unfold oth at h
  rw [List.mem_filter] at h
  exact ⟨h.1, by simpa using h.2⟩
theorem j10_eq (b : Rec) (a : List Co) (g : Good a) (c1 c2 c4 : Int) (c3 : List Int) (hc : c1 = b.co) (hco : 0 ≤ b.co ∧ b.co ≤ 2) : wandererref_Nexted_j10 (oth b a) c1 c2 c3 c4 = some (insC ⟨c1, c2, c3, c4⟩ (oth b a), 0) := by
  unfold wandererref_Nexted_j10
  have hl := oth_len b a
  have hg := g.len
  rw [grd_t (Room.mk (by simp; omega) (by simp; omega)), grd_t (by simp; omega)]
  rw [sort_few (oth b a) ⟨c1, c2, c3, c4⟩ (by omega) (oth_up b g.up) (fun x hx => by have := g.ok x (oth_mem hx).1; exact ⟨this.1, this.2.1⟩) (by subst hc; exact hco) (fun x hx => by have := (oth_mem hx).2; rw [hc]; exact this)]
theorem nexted_eq (a : List Co) (b : Rec) : wandererref_Nexted a b = some (pNext a b) := by
  unfold wandererref_Nexted pNext
  by_cases h1 : wandererref_CheckCos a = 0
  · by_cases h2 : wandererref_CheckRec b = 0
    · have g := (good_iff a).1 h1
      have gr := goodR b h2
      rw [h1, h2]
      simp only [ne_eq, not_true_eq_false, decide_false, cond_false, if_false]
      rw [fold_next b a none [] (g.up.imp (fun h => by omega)) (fun y hy => by cases hy) (by simpa using g.len), List.nil_append]
      have hk13 : ∀ s : Option Co × List Co, wandererref_Nexted_k13 b s = wandererref_Nexted_j11 s.1 b s.2 (decide (b.kind = 1 ∨ b.kind = 4)) := by
        rintro ⟨s1, s2⟩
        unfold wandererref_Nexted_k13
        simp only
        by_cases hk : b.kind = 1
        · simp [hk]
        · simp [hk]
      rw [hk13]
      simp only
      unfold wandererref_Nexted_j11
      have hgk := gr.kind
      cases hh : hereOf b a with
      | none =>
        simp only
        by_cases hk : b.kind = 1 ∨ b.kind = 4
        · rw [dT hk, if_pos hk]
          simp only [cond_true, Option.isSome_none, cond_false]
          cases (decide (b.epoch = 1) != decide (b.kind = 1)) with
          | true => rfl
          | false =>
            simp only [cond_false, Bool.false_eq_true, if_false]
            exact j10_eq b a g b.co b.epoch (-1) b.image rfl gr.co
        · rw [dF hk, if_neg hk]; rfl
      | some c =>
        have hc : c.id_ = b.co := by
          have := List.find?_some hh
          simpa using this
        simp only
        by_cases hk : b.kind = 1 ∨ b.kind = 4
        · rw [dT hk, if_pos hk]; rfl
        · rw [dF hk, if_neg hk]
          simp only [cond_false, Option.isNone_some, bnd]
          cases (decide (b.epoch ≠ c.epoch) || (decide (c.offered ≠ -1) != decide (b.kind = 5))) with
          | true => rfl
          | false =>
            simp only [cond_false, Bool.false_eq_true, if_false]
            by_cases k5 : b.kind = 5
            · rw [dT k5, if_pos k5]; rfl
            · rw [dF k5, if_neg k5]
              simp only [cond_false]
              by_cases k2 : b.kind = 2
              · rw [dT k2, if_pos k2]
                exact j10_eq b a g _ _ _ _ hc gr.co
              · rw [dF k2, if_neg k2]
                simp only [cond_false]
                by_cases he : c.epoch = 100
                · rw [dT he, if_pos he]; rfl
                · rw [dF he, if_neg he]
                  exact j10_eq b a g _ _ _ _ hc gr.co
    · rw [h1]
      simp only [ne_eq, not_true_eq_false, decide_false, cond_false, if_false]
      rw [show decide (¬wandererref_CheckRec b = 0) = true from dT h2, if_pos h2]; rfl
  · rw [show decide (wandererref_CheckCos a ≠ 0) = true from dT h1, if_pos h1]; rfl
end Go.Proofs.Ytkjajililnbimaa

namespace Go.Proofs.Ytkjajililnbimaa
open Go Go.Proofs Go.LX
theorem coCopy {a : List Co} (h : a.length ≤ 3) (h2 : ∀ x ∈ a, x.image.length ≤ 1200) : place_Copy a = some a := by
  unfold place_Copy
  rw [clone_s (by omega) (by omega)]
  simp only [bnd, Int.toNat_natCast]
  have key : ∀ (m i : Nat), i + m = a.length → upto place_Copy_b3 place_Copy_k4 (i : Int) m a = some a := by
    intro m
    induction m with
    | zero => intro i _; rfl
    | succ m ih =>
      intro i hi
      have h1 : i < a.length := by omega
      show place_Copy_b3 (i : Int) a (upto place_Copy_b3 place_Copy_k4 ((i : Int) + 1) m) = _
      have hi2 := ih (i + 1) (by omega)
      rw [show ((i + 1 : Nat) : Int) = (i : Int) + 1 from rfl] at hi2
      generalize upto place_Copy_b3 place_Copy_k4 ((i : Int) + 1) m = nx at hi2 ⊢
      unfold place_Copy_b3
      rw [idx_lt h1]
      have := h2 a[i] (List.getElem_mem h1)
      simp only [bnd]
      rw [clone_s (by omega) (by omega)]
      simp only [bnd, Int.toNat_natCast]
      rw [show ({ a[i] with image := a[i].image } : Co) = a[i] from rfl, List.set_getElem_self]
      exact hi2
  simpa using key a.length 0 (by omega)
theorem findEq (a : List Co) (k : Int) : place_Find a k = some (match a.findIdx? (fun x => decide (x.id_ = k)) with | some n => (n : Int) | none => -1) := by
  unfold place_Find
  simp only [Int.toNat_natCast]
  rw [upto_find (fun x => decide (x.id_ = k)) (fun i => some i) a (fun i x nx hx => by
    unfold place_Find_b7
    rw [idx_nat, hx]; rfl)]
  cases a.findIdx? (fun x => decide (x.id_ = k)) <;> rfl
/-- Where it is. -/
theorem idx_here (b : Rec) : ∀ (a : List Co), (hereOf b a = none ∧ a.findIdx? (fun x => decide (x.id_ = b.co)) = none ∧ oth b a = a) ∨
    ∃ n x, hereOf b a = some x ∧ a.findIdx? (fun x => decide (x.id_ = b.co)) = some n ∧ a[n]? = some x ∧ x.id_ = b.co
  | [] => .inl ⟨rfl, rfl, rfl⟩
  | x :: r => by
    unfold hereOf oth
    rw [List.find?_cons, List.findIdx?_cons, List.filter_cons]
    by_cases h : x.id_ = b.co
    · exact .inr ⟨0, x, by simp [h], by simp [h], rfl, h⟩
    · simp only [h, decide_false, Bool.false_eq_true, if_false, ne_eq, not_false_eq_true, decide_true, if_true]
      rcases idx_here b r with ⟨h1, h2, h3⟩ | ⟨n, y, h1, h2, h3, h4⟩
      · exact .inl ⟨h1, by rw [h2]; rfl, by unfold oth at h3; rw [h3]⟩
      · exact .inr ⟨n + 1, y, h1, by rw [h2]; rfl, by simpa using h3, h4⟩
theorem set_ins (b : Rec) : ∀ (a : List Co) (n : Nat) (x y : Co), Up a → a[n]? = some x → x.id_ = b.co → y.id_ = b.co → a.set n y = insC y (oth b a)
  | [], n, x, y, _, h, _, _ => by simp at h
  | z :: r, 0, x, y, hu, h, hx, hy => by
    simp only [List.getElem?_cons_zero, Option.some.injEq] at h
    subst h
    rw [Up, List.pairwise_cons] at hu
    have h1 : oth b (z :: r) = r := by
      unfold oth
      rw [List.filter_cons, if_neg (by simp [hx]), List.filter_eq_self]
      intro u hu2
      have := hu.1 u hu2
      simp; omega
    rw [h1, List.set_cons_zero]
    cases r with
    | nil => rfl
    | cons u r =>
      have := hu.1 u List.mem_cons_self
      simp only [insC]
      rw [if_neg (by omega)]
  | z :: r, n + 1, x, y, hu, h, hx, hy => by
    simp only [List.getElem?_cons_succ] at h
    rw [Up, List.pairwise_cons] at hu
    have hz := hu.1 x (List.mem_of_getElem? h)
    have h1 : oth b (z :: r) = z :: oth b r := by unfold oth; rw [List.filter_cons, if_pos (by simp; omega)]
    rw [h1, List.set_cons_succ, set_ins b r n x y hu.2 h hx hy]
    simp only [insC]
    rw [if_pos (by omega)]
theorem del_oth (b : Rec) : ∀ (a : List Co) (n : Nat) (x : Co), Up a → a[n]? = some x → x.id_ = b.co → a.take n ++ a.drop (n + 1) = oth b a
  | [], n, x, _, h, _ => by simp at h
  | z :: r, 0, x, hu, h, hx => by
    simp only [List.getElem?_cons_zero, Option.some.injEq] at h
    subst h
    rw [Up, List.pairwise_cons] at hu
    unfold oth
    rw [List.filter_cons, if_neg (by simp [hx])]
    have : r.filter (fun x => decide (x.id_ ≠ b.co)) = r := by
      rw [List.filter_eq_self]
      intro u hu2
      have := hu.1 u hu2
      simp; omega
    rw [this]; simp
  | z :: r, n + 1, x, hu, h, hx => by
    simp only [List.getElem?_cons_succ] at h
    rw [Up, List.pairwise_cons] at hu
    have hz := hu.1 x (List.mem_of_getElem? h)
    have h1 : oth b (z :: r) = z :: oth b r := by unfold oth; rw [List.filter_cons, if_pos (by simp; omega)]
    rw [h1, ← del_oth b r n x hu.2 h hx]
    simp
theorem ins_loop (b : Rec) (a : List Co) (ha : a.length ≤ 3) (hb : b.image.length ≤ 1200) : ∀ (k i N : Nat), i + k = a.length → k < N → again (place_Next_b28 a b) N (i : Int) = some (a.take i ++ insC ⟨b.co, b.epoch, b.image, -1⟩ (a.drop i), 0)
  | 0, i, N + 1, h, _ => by
    show place_Next_b28 a b (i : Int) (again (place_Next_b28 a b) N) = _
    generalize again (place_Next_b28 a b) N = nx
    unfold place_Next_b28 place_Next_j27
    rw [dF (by omega)]
    simp only [cond_false]
    rw [clone_s (by omega) (by omega)]
    simp only [bnd]
    rw [grd_t (Room.mk (by simp; omega) (by simp; omega)), ins1, if_pos ⟨by omega, by omega⟩]
    rw [List.drop_eq_nil_of_le (show a.length ≤ i by omega)]
    simp [insC, show a.drop i = [] from List.drop_eq_nil_of_le (by omega)]
  | k + 1, i, N + 1, h, hN => by
    have hi : i < a.length := by omega
    have ih := ins_loop b a ha hb k (i + 1) N (by omega) (by omega)
    rw [show ((i + 1 : Nat) : Int) = (i : Int) + 1 from rfl] at ih
    show place_Next_b28 a b (i : Int) (again (place_Next_b28 a b) N) = _
    generalize again (place_Next_b28 a b) N = nx at ih ⊢
    unfold place_Next_b28 place_Next_j27
    rw [dT (by omega), idx_lt hi]
    simp only [cond_true, bnd]
    by_cases hl : a[i].id_ < b.co
    · rw [dT hl]
      simp only [cond_true]
      rw [gI, ih, List.drop_eq_getElem_cons hi]
      simp only [insC]
      rw [if_pos hl, List.take_succ_eq_append_getElem hi, List.append_assoc, List.singleton_append]
    · rw [dF hl]
      simp only [cond_false]
      rw [clone_s (by omega) (by omega)]
      simp only [bnd]
      rw [grd_t (Room.mk (by simp; omega) (by simp; omega)), ins1, if_pos ⟨by omega, by omega⟩]
      simp only [bnd, Int.toNat_natCast]
      rw [List.drop_eq_getElem_cons hi]
      simp only [insC]
      rw [if_neg hl, List.append_assoc, List.singleton_append]
theorem next_eq (N : Nat) (hN : 5 < N) (a : List Co) (b : Rec) : place_Next N a b = some (pNext a b) := by
  unfold place_Next pNext
  rw [chkEq]
  simp only [bnd]
  by_cases h1 : wandererref_CheckCos a = 0
  · rw [rec_eq]
    by_cases h2 : wandererref_CheckRec b = 0
    · have g := (good_iff a).1 h1
      have gr := goodR b h2
      have gl := g.len
      rw [h1, h2]
      simp only [ne_eq, not_true_eq_false, decide_false, cond_false, if_false]
      rw [coCopy g.len (fun x hx => (g.ok x hx).2.2.2.2.2.2.2)]
      simp only [bnd]
      rw [findEq]
      simp only [bnd]
      have hgk := gr.kind
      have hk14 : (decide ((b.kind : Int) = 1) || decide ((b.kind : Int) = 4)) = decide (b.kind = 1 ∨ b.kind = 4) := by simp
      rw [hk14]
      rcases idx_here b a with ⟨e1, e2, e3⟩ | ⟨n, c, e1, e2, e3, e4⟩
      · rw [e1, e2]
        simp only
        by_cases hk : b.kind = 1 ∨ b.kind = 4
        · rw [dT hk, if_pos hk]
          simp only [cond_true]
          rw [show decide ((0 : Int) ≤ -1) = false by decide]
          simp only [cond_false]
          have el : ((decide ((b.kind : Int) = 1) && decide ((b.epoch : Int) ≠ 1)) || (decide ((b.kind : Int) = 4) && decide ((b.epoch : Int) = 1))) = (decide (b.epoch = 1) != decide (b.kind = 1)) := by
            by_cases q : b.epoch = 1
            · rcases hk with k | k <;> simp [q, k]
            · rcases hk with k | k <;> simp [q, k]
          rw [el]
          cases (decide (b.epoch = 1) != decide (b.kind = 1)) with
          | true => rfl
          | false =>
            simp only [cond_false, Bool.false_eq_true, if_false]
            have := ins_loop b a g.len gr.image a.length 0 N (by omega) (by omega)
            simp only [Int.natCast_zero, List.take_zero, List.drop_zero, List.nil_append] at this
            rw [this, e3]
        · rw [dF hk, if_neg hk]
          simp only [cond_false]
          rw [show decide ((-1 : Int) < 0) = true by decide]; rfl
      · have hn : n < a.length := by
          rcases Nat.lt_or_ge n a.length with h | h
          · exact h
          · rw [List.getElem?_eq_none h] at e3; cases e3
        have hok := g.ok c (List.mem_of_getElem? e3)
        rw [e1, e2]
        simp only
        by_cases hk : b.kind = 1 ∨ b.kind = 4
        · rw [dT hk, if_pos hk]
          simp only [cond_true]
          rw [dT (show (0 : Int) ≤ (n : Int) by omega)]; rfl
        · rw [dF hk, if_neg hk]
          simp only [cond_false]
          rw [dF (show ¬ (n : Int) < 0 by omega), idx_nat, e3]
          simp only [cond_false, bnd]
          have ho : decide ((0 : Int) ≤ c.offered) = decide (c.offered ≠ -1) := by
            rw [decide_eq_decide]; have := hok.2.2.2.2.1; omega
          have hj : (bif decide (c.epoch ≠ b.epoch) then place_Next_j30 b a (n : Int) c true else place_Next_j30 b a (n : Int) c (decide (b.kind = 5) != decide ((0 : Int) ≤ c.offered))) = place_Next_j30 b a (n : Int) c (decide (b.epoch ≠ c.epoch) || (decide (c.offered ≠ -1) != decide (b.kind = 5))) := by
            rw [ho]
            by_cases q : b.epoch = c.epoch
            · rw [q]
              simp only [ne_eq, not_true_eq_false, decide_false, cond_false, Bool.false_or]
              cases decide (b.kind = 5) <;> cases decide (¬c.offered = -1) <;> rfl
            · rw [show decide (c.epoch ≠ b.epoch) = true from dT (fun h => q h.symm), show decide (b.epoch ≠ c.epoch) = true from dT q]; rfl
          refine hj.trans ?_
          unfold place_Next_j30
          cases (decide (b.epoch ≠ c.epoch) || (decide (c.offered ≠ -1) != decide (b.kind = 5))) with
          | true => rfl
          | false =>
            simp only [cond_false, Bool.false_eq_true, if_false]
            by_cases k2 : b.kind = 2
            · rw [dT k2, if_neg (by omega), if_pos k2]
              simp only [cond_true]
              rw [clone_s (by have := gr.image; omega) (by have := gr.image; omega)]
              simp only [bnd, Int.toNat_natCast]
              rw [set_ins b a n c { c with image := b.image } g.up e3 e4 e4]
            · rw [dF k2, if_neg k2]
              simp only [cond_false]
              by_cases k3 : b.kind = 3
              · rw [dT k3, if_neg (by omega)]
                simp only [cond_true]
                by_cases he : c.epoch = 100
                · rw [dT he, if_pos he]; rfl
                · rw [dF he, if_neg he]
                  simp only [cond_false, Int.toNat_natCast]
                  rw [set_ins b a n c { c with offered := b.place } g.up e3 e4 e4]
              · have k5 : b.kind = 5 := by omega
                rw [dF k3, dT k5, if_pos k5]
                simp only [cond_false, cond_true]
                rw [gI, del_s1 hn]
                simp only [bnd]
                rw [del_oth b a n c g.up e3 e4]
    · rw [h1]
      simp only [ne_eq, not_true_eq_false, decide_false, cond_false, if_false]
      rw [show decide (¬wandererref_CheckRec b = 0) = true from dT h2, if_pos h2]; rfl
  · rw [show decide (wandererref_CheckCos a ≠ 0) = true from dT h1, if_pos h1]; rfl
theorem held_ok : wandererlaw_held 10 = some true := by decide +kernel
theorem placeSays (a : List Co) (b : Rec) (c : List Co) (d : Int) : ∃ N, wandererlaw_PlaceSays N a b c d = some true := by
  refine ⟨10, ?_⟩
  unfold wandererlaw_PlaceSays
  rw [next_eq 10 (by decide), nexted_eq, held_ok, chkEq, coSame, coSame2, findEq]
  simp only [bnd, cond_true, decide_true, beq_self_eq_true, Int.toNat_natCast]
  rw [upto_find (fun x => decide (x.id_ = d)) (fun i => bif (decide ((match a.findIdx? (fun x => decide (x.id_ = d)) with | some n => (n : Int) | none => -1) = i) && decide ((pNext a b).2 = (pNext a b).2)) then (wandererref_SameCos (pNext a b).1 (pNext a b).1).bind fun y => some y else some false) a (fun i x nx hx => by
    unfold wandererlaw_PlaceSays_b7
    rw [idx_nat, hx]; rfl)]
  cases a.findIdx? (fun x => decide (x.id_ = d)) with
  | none => simp only [wandererlaw_PlaceSays_k8, coSame2, decide_true, Bool.and_self, cond_true, bnd]
  | some n => simp only [coSame2, decide_true, Bool.and_self, cond_true, bnd]
theorem replay_eq (N : Nat) (hN : 5 < N) (a : List Rec) : place_Replay N a = wandererref_Replayed a := by
  unfold place_Replay wandererref_Replayed
  have : place_Replay_b3 N = wandererref_Replayed_b3 := by
    funext x s nx
    unfold place_Replay_b3 wandererref_Replayed_b3
    rw [next_eq N hN, nexted_eq]
  rw [this]; rfl
theorem replayed_some (a : List Rec) : ∃ y, wandererref_Replayed a = some y := by
  unfold wandererref_Replayed
  by_cases h : (120 : Int) < (a.length : Int)
  · rw [dT h]; exact ⟨_, rfl⟩
  · rw [dF h]
    have : ∀ (l : List Rec) (s : List Co), ∃ y, each wandererref_Replayed_b3 wandererref_Replayed_k4 l s = some y := by
      intro l
      induction l with
      | nil => intro s; exact ⟨_, rfl⟩
      | cons x r ih =>
        intro s
        rw [each_cons]
        obtain ⟨y, hy⟩ := ih (pNext s x).1
        generalize each wandererref_Replayed_b3 wandererref_Replayed_k4 r = nx at hy ⊢
        unfold wandererref_Replayed_b3
        rw [nexted_eq]
        simp only [bnd]
        cases decide ((pNext s x).2 ≠ 0) with
        | true => exact ⟨_, rfl⟩
        | false => exact ⟨y, hy⟩
    exact this a []
theorem placeReplays (a : List Rec) : ∃ N, wandererlaw_PlaceReplays N a = some true := by
  refine ⟨10, ?_⟩
  unfold wandererlaw_PlaceReplays
  obtain ⟨y, hy⟩ := replayed_some a
  rw [replay_eq 10 (by decide), hy, held_ok]
  simp only [bnd, decide_true, Bool.and_self, cond_true, coSame2]
end Go.Proofs.Ytkjajililnbimaa

namespace Go.Proofs.Ytkjajililnbimaa
open Go Go.Proofs Go.LX
theorem insC_mem {c y : Co} : ∀ {l : List Co}, y ∈ insC c l ↔ y = c ∨ y ∈ l
  | [] => by simp [insC]
  | x :: r => by
    unfold insC
    split
    · rw [List.mem_cons, insC_mem, List.mem_cons]
      constructor
      · rintro (h | h | h)
        · exact .inr (.inl h)
        · exact .inl h
        · exact .inr (.inr h)
      · rintro (h | h | h)
        · exact .inr (.inl h)
        · exact .inl h
        · exact .inr (.inr h)
    · rw [List.mem_cons]
theorem insC_len {c : Co} : ∀ {l : List Co}, (insC c l).length = l.length + 1
  | [] => rfl
  | x :: r => by
    unfold insC
    split
    · rw [List.length_cons, insC_len, List.length_cons]
    · rfl
theorem insC_up {c : Co} : ∀ {l : List Co}, Up l → (∀ x ∈ l, x.id_ ≠ c.id_) → Up (insC c l)
  | [], _, _ => by simp [insC, Up]
  | x :: r, h, hn => by
    rw [Up, List.pairwise_cons] at h
    have hx := hn x List.mem_cons_self
    unfold insC
    split
    · next hl =>
      show List.Pairwise _ _
      rw [List.pairwise_cons]
      refine ⟨fun y hy => ?_, insC_up h.2 (fun y hy => hn y (List.mem_cons_of_mem _ hy))⟩
      rcases insC_mem.1 hy with rfl | hy
      · exact hl
      · exact h.1 y hy
    · next hl =>
      show List.Pairwise _ _
      rw [List.pairwise_cons, List.pairwise_cons]
      refine ⟨fun y hy => ?_, h.1, h.2⟩
      rcases List.mem_cons.1 hy with rfl | hy
      · omega
      · have := h.1 y hy; omega
theorem find_of {l : List Co} (hu : Up l) {x : Co} (hx : x ∈ l) : ∃ n, l.findIdx? (fun y => decide (y.id_ = x.id_)) = some n ∧ l[n]? = some x ∧ n < l.length := by
  induction l with
  | nil => cases hx
  | cons z r ih =>
    rw [Up, List.pairwise_cons] at hu
    rw [List.findIdx?_cons]
    rcases List.mem_cons.1 hx with rfl | hx
    · exact ⟨0, by simp, rfl, by simp⟩
    · have := hu.1 x hx
      obtain ⟨n, h1, h2, h3⟩ := ih hu.2 hx
      exact ⟨n + 1, by rw [if_neg (by simp; omega), h1]; rfl, by simpa using h2, by simp; omega⟩
/-- What comes of it, if all is well. -/
theorem next_ok (a : List Co) (b : Rec) (h : (pNext a b).2 = 0) : Good a ∧ Good (pNext a b).1 ∧ a.length ≤ (pNext a b).1.length + 1 ∧ (pNext a b).1.length ≤ a.length + 1 ∧ (∀ x ∈ a, x.id_ ≠ b.co → x ∈ (pNext a b).1) ∧ (∀ x ∈ a, x.id_ = b.co → 0 ≤ x.offered → b.kind = 5) := by
  unfold pNext at h ⊢
  by_cases h1 : wandererref_CheckCos a = 0
  · by_cases h2 : wandererref_CheckRec b = 0
    · have g := (good_iff a).1 h1
      have gr := goodR b h2
      have gl := g.len
      have gc := gr.co
      rw [if_neg (by simpa using h1), if_neg (by simpa using h2)] at h ⊢
      have hoth : ∀ x ∈ a, x.id_ ≠ b.co → x ∈ oth b a := fun x hx hn => by unfold oth; rw [List.mem_filter]; exact ⟨hx, by simpa using hn⟩
      have hins : ∀ c : Co, coOk c → c.id_ = b.co → (oth b a).length ≤ 2 → Good (insC c (oth b a)) := fun c hc hid hl => ⟨by rw [insC_len]; omega, fun x hx => by
        rcases insC_mem.1 hx with rfl | hx
        · exact hc
        · exact g.ok x (oth_mem hx).1, insC_up (oth_up b g.up) (fun x hx => by have := (oth_mem hx).2; omega)⟩
      rcases idx_here b a with ⟨e1, e2, e3⟩ | ⟨n, c, e1, e2, e3, e4⟩
      · rw [e1] at h ⊢
        simp only at h ⊢
        have hno : ∀ x ∈ a, x.id_ ≠ b.co := fun x hx e => by
          unfold hereOf at e1
          rw [List.find?_eq_none] at e1
          exact e1 x hx (by simpa using e)
        by_cases hk : b.kind = 1 ∨ b.kind = 4
        · rw [if_pos hk] at h ⊢
          cases hq : (decide (b.epoch = 1) != decide (b.kind = 1)) with
          | true => rw [hq, if_pos rfl] at h; exact absurd h (by decide)
          | false =>
            rw [hq] at h
            simp only [Bool.false_eq_true, if_false] at h ⊢
            have hl2 : a.length ≤ 2 := by
              match a, g, hno with
              | [], _, _ => simp
              | [x], _, _ => simp
              | [x, y], _, _ => simp
              | [x, y, z], g, hno =>
                have hu := g.up
                simp [Up] at hu
                have o1 := g.ok x (by simp)
                have o2 := g.ok y (by simp)
                have o3 := g.ok z (by simp)
                have n1 := hno x (by simp)
                have n2 := hno y (by simp)
                have n3 := hno z (by simp)
                unfold coOk at o1 o2 o3
                omega
              | x :: y :: z :: u :: r, g, _ => have := g.len; simp at this
            have hi := gr.has (by omega)
            refine ⟨g, hins _ ⟨gc.1, gc.2, gr.epoch.1, gr.epoch.2, by simp, by simp, hi, gr.image⟩ rfl (by rw [e3]; exact hl2), ?_, ?_, fun x hx hn => insC_mem.2 (.inr (hoth x hx hn)), fun x hx e => absurd e (hno x hx)⟩
            · rw [insC_len, e3]; omega
            · rw [insC_len, e3]; omega
        · rw [if_neg hk] at h; exact absurd h (by decide)
      · rw [e1] at h ⊢
        simp only at h ⊢
        have hn : n < a.length := by
          rcases Nat.lt_or_ge n a.length with h | h
          · exact h
          · rw [List.getElem?_eq_none h] at e3; cases e3
        have hol : (oth b a).length + 1 = a.length := by
          rw [← del_oth b a n c g.up e3 e4]; simp; omega
        have hco := g.ok c (List.mem_of_getElem? e3)
        have huniq : ∀ x ∈ a, x.id_ = b.co → x = c := by
          intro x hx he
          obtain ⟨m, f1, f2, _⟩ := find_of g.up hx
          rw [he, e2] at f1
          cases f1
          rw [e3] at f2
          exact (Option.some.inj f2).symm
        by_cases hk : b.kind = 1 ∨ b.kind = 4
        · rw [if_pos hk] at h; exact absurd h (by decide)
        · rw [if_neg hk] at h ⊢
          cases hq : (decide (b.epoch ≠ c.epoch) || (decide (c.offered ≠ -1) != decide (b.kind = 5))) with
          | true => rw [hq, if_pos rfl] at h; exact absurd h (by decide)
          | false =>
            rw [hq] at h
            simp only [Bool.false_eq_true, if_false] at h ⊢
            have hoff : ∀ x ∈ a, x.id_ = b.co → 0 ≤ x.offered → b.kind = 5 := by
              intro x hx he h0
              have := huniq x hx he
              subst this
              rw [Bool.or_eq_false_iff] at hq
              have h3 := hq.2
              rw [show decide (x.offered ≠ -1) = true from dT (by omega)] at h3
              cases h5 : decide (b.kind = 5) with
              | true => exact of_decide_eq_true h5
              | false => rw [h5] at h3; cases h3
            have hmem : ∀ (c' : Co) x, x ∈ a → x.id_ ≠ b.co → x ∈ insC c' (oth b a) := fun c' x hx hn => insC_mem.2 (.inr (hoth x hx hn))
            by_cases k5 : b.kind = 5
            · rw [if_pos k5] at h ⊢
              exact ⟨g, ⟨by show (oth b a).length ≤ 3; omega, fun x hx => g.ok x (oth_mem hx).1, oth_up b g.up⟩, by show a.length ≤ (oth b a).length + 1; omega, by show (oth b a).length ≤ a.length + 1; omega, hoth, hoff⟩
            · rw [if_neg k5] at h ⊢
              by_cases k2 : b.kind = 2
              · rw [if_pos k2] at h ⊢
                have hi := gr.has (by omega)
                refine ⟨g, hins _ ⟨hco.1, hco.2.1, hco.2.2.1, hco.2.2.2.1, hco.2.2.2.2.1, hco.2.2.2.2.2.1, hi, gr.image⟩ e4 (by omega), ?_, ?_, hmem _, hoff⟩
                · rw [insC_len]; omega
                · rw [insC_len]; omega
              · rw [if_neg k2] at h ⊢
                by_cases he : c.epoch = 100
                · rw [if_pos he] at h; exact absurd h (by decide)
                · rw [if_neg he] at h ⊢
                  have hp := gr.place
                  refine ⟨g, hins _ ⟨hco.1, hco.2.1, hco.2.2.1, hco.2.2.2.1, by show -1 ≤ b.place; omega, hp.2, hco.2.2.2.2.2.2.1, hco.2.2.2.2.2.2.2⟩ e4 (by omega), ?_, ?_, hmem _, hoff⟩
                  · rw [insC_len]; omega
                  · rw [insC_len]; omega
    · rw [if_neg (by simpa using h1), if_pos h2] at h; exact absurd h h2
  · rw [if_pos h1] at h; exact absurd h h1
theorem placeKeeps (a : List Co) (b : Rec) : ∃ N, wandererlaw_PlaceKeeps N a b = some true := by
  refine ⟨10, ?_⟩
  unfold wandererlaw_PlaceKeeps
  rw [next_eq 10 (by decide), held_ok]
  simp only [bnd, Bool.not_true, Bool.false_or]
  by_cases h : (pNext a b).2 = 0
  · obtain ⟨g, g2, hl1, hl2, hm, ho⟩ := next_ok a b h
    have gl := g.len
    rw [show decide ((pNext a b).2 ≠ 0) = false from dF (by simpa using h)]
    simp only [cond_false]
    rw [chkEq, (good_iff _).2 g2]
    simp only [bnd, ne_eq, not_true_eq_false, decide_false, cond_false]
    rw [gI, dF (by omega)]
    simp only [cond_false]
    rw [gI, dF (by omega)]
    unfold wandererlaw_PlaceKeeps_j2
    simp only [cond_false]
    have key : ∀ l : List Co, (∀ x ∈ l, x ∈ a) → each (wandererlaw_PlaceKeeps_b21 (pNext a b) b) wandererlaw_PlaceKeeps_k22 l () = some true := by
      intro l
      induction l with
      | nil => intro _; rfl
      | cons x r ih =>
        intro hx
        have hxa := hx x List.mem_cons_self
        rw [each_cons]
        have ih2 := ih (fun y hy => hx y (List.mem_cons_of_mem _ hy))
        generalize each (wandererlaw_PlaceKeeps_b21 (pNext a b) b) wandererlaw_PlaceKeeps_k22 r = nx at ih2 ⊢
        unfold wandererlaw_PlaceKeeps_b21 wandererlaw_PlaceKeeps_j20
        rw [findEq]
        simp only [bnd]
        by_cases hid : x.id_ = b.co
        · rw [show decide (x.id_ ≠ b.co) = false from dF (by simpa using hid), dT hid]
          simp only [cond_false, Bool.true_and]
          by_cases h0 : 0 ≤ x.offered
          · rw [dT h0, show decide (b.kind ≠ 5) = false from dF (by simpa using ho x hxa hid h0)]
            simpa using ih2
          · rw [dF h0]
            simpa using ih2
        · rw [show decide (x.id_ ≠ b.co) = true from dT hid, dF hid]
          obtain ⟨n, f1, f2, f3⟩ := find_of g2.up (hm x hxa hid)
          rw [f1]
          simp only [cond_true]
          rw [dF (show ¬ (n : Int) < 0 by omega)]
          simp only [cond_false]
          have hgl := g2.len
          rw [gI, show ((n : Int) + 1) = ((n + 1 : Nat) : Int) from rfl, sub_s (by omega) (by omega), one_at f3]
          have : (pNext a b).1[n] = x := by
            rw [List.getElem?_eq_getElem f3] at f2; exact Option.some.inj f2
          rw [this]
          simp only [bnd, coSame, decide_true, Bool.not_true, cond_false, Bool.false_and]
          exact ih2
    exact key a (fun _ h => h)
  · rw [show decide ((pNext a b).2 ≠ 0) = true from dT h]; rfl
end Go.Proofs.Ytkjajililnbimaa
