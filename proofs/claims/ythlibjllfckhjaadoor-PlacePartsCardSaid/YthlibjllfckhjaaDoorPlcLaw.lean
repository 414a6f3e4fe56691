/-
  Plain laws.
-/
import Derived.Test.YthlibjllfckhjaaDoorPlc
import Derived.Test.YthlibjllfckhjaaDoorDskLaw
set_option linter.unusedSimpArgs false
set_option linter.unusedVariables false
namespace Go.Proofs.YthlibjllfckhjaaDoor
open Go Go.Proofs Go.LX
def wandererref_CheckCos_b3 (x8 : Co) (x5 : Int) (nx10 : Int → Int) : Int :=
  bif (((!(wandererref_in x8.id_ 0 2)) || (!(wandererref_in x8.epoch 1 100))) || (!(wandererref_in x8.offered (-1) 2))) then 3 else bif (!(wandererref_in (x8.image.length : Int) 1 1200)) then 2 else bif decide ((x8.id_ : Int) ≤ x5) then 6 else nx10 x8.id_
def wandererref_CheckCos_k4 (x5 : Int) : Int :=
  0
def wandererref_CheckCos (a : List Co) : Int :=
  bif decide ((3 : Int) < (a.length : Int)) then 2 else each wandererref_CheckCos_b3 wandererref_CheckCos_k4 a (-1)
theorem coSame (a b : List Co) : place_Same a b = some (decide (a = b)) := by
  unfold place_Same
  by_cases h : a.length = b.length
  · rw [dF (by omega)]
    simp only [cond_false]
    rw [eachI_all2 (fun x y => decide (x = y)) a b h rfl (fun i x y nx h2 => by
      unfold place_Same_b23 place_Same_j22
      rw [idx_nat, h2]
      simp only [bnd, eqInt]
      have e : (((decide (x.id_ = y.id_) && decide (x.epoch = y.epoch)) && decide (x.offered = y.offered)) && decide (x.image = y.image)) = decide (x = y) := by
        cases x; cases y; rw [Bool.eq_iff_iff]; simp; exact ⟨fun ⟨⟨⟨h1, h2⟩, h3⟩, h4⟩ => ⟨h1, h2, h4, h3⟩, fun ⟨h1, h2, h4, h3⟩ => ⟨⟨⟨h1, h2⟩, h3⟩, h4⟩⟩
      rw [← e]
      cases ((decide (x.id_ = y.id_) && decide (x.epoch = y.epoch)) && decide (x.offered = y.offered)) <;> cases decide (x.image = y.image) <;> rfl), all2_eq (fun _ _ => rfl)]
  · rw [dT (by omega)]
    have : a ≠ b := fun e => h (by rw [e])
    rw [dF this]; rfl
def coOk (x : Co) : Prop := 0 ≤ x.id_ ∧ x.id_ ≤ 2 ∧ 1 ≤ x.epoch ∧ x.epoch ≤ 100 ∧ -1 ≤ x.offered ∧ x.offered ≤ 2 ∧ 1 ≤ x.image.length ∧ x.image.length ≤ 1200
def rg (x : Co) : Bool := (((((decide ((x.id_ : Int) < 0) || decide ((3 : Int) ≤ x.id_)) || decide ((x.epoch : Int) < 1)) || decide ((100 : Int) < x.epoch)) || decide ((x.offered : Int) < -1)) || decide ((3 : Int) ≤ x.offered))
def mn (x : Co) : Bool := (decide (((x.image.length : Int) : Int) = 0) || decide ((1200 : Int) < (x.image.length : Int)))
theorem rg_eq (x : Co) : (((!(wandererref_in x.id_ 0 2)) || (!(wandererref_in x.epoch 1 100))) || (!(wandererref_in x.offered (-1) 2))) = rg x := by
  unfold wandererref_in rg; rw [Bool.eq_iff_iff]; simp; omega
theorem mn_eq (x : Co) : (!(wandererref_in (x.image.length : Int) 1 1200)) = mn x := by
  have hn : 0 ≤ (x.image.length : Int) := by omega
  unfold wandererref_in mn
  generalize (x.image.length : Int) = n at hn ⊢
  rw [Bool.eq_iff_iff]; simp; omega
theorem coOk_iff (x : Co) : coOk x ↔ rg x = false ∧ mn x = false := by
  have hn : 0 ≤ (x.image.length : Int) := by omega
  unfold coOk rg mn
  rw [show (1 ≤ x.image.length) = (1 ≤ (x.image.length : Int)) by simp; omega, show (x.image.length ≤ 1200) = ((x.image.length : Int) ≤ 1200) by simp; omega]
  generalize (x.image.length : Int) = n at hn ⊢
  simp
  omega
theorem chkEq (a : List Co) : place_Check a = some (wandererref_CheckCos a) := by
  unfold place_Check wandererref_CheckCos
  by_cases h : (3 : Int) < (a.length : Int)
  · rw [dT h]; rfl
  · rw [dF h]
    simp only [cond_false]
    have key : ∀ (k : List Co) (i : Nat) (last : Int), (∀ j, k[j]? = a[i + j]?) → (i = 0 → last = -1) → (∀ j, i = j + 1 → ∃ y, a[j]? = some y ∧ y.id_ = last) → i ≤ a.length → eachI (place_Check_b11 a) place_Check_k12 (i : Int) k () = some (each wandererref_CheckCos_b3 wandererref_CheckCos_k4 k last) := by
      intro k
      induction k with
      | nil => intro i last _ _ _ _; rfl
      | cons x k ih =>
        intro i last hk h0 h1 hi
        rw [eachI_cons, each_cons]
        have hx : a[i]? = some x := by have := hk 0; simpa using this.symm
        have hi2 : i < a.length := by
          rcases Nat.lt_or_ge i a.length with h | h
          · exact h
          · rw [List.getElem?_eq_none h] at hx; cases hx
        have ih2 := ih (i + 1) x.id_ (fun j => by have := hk (j + 1); simpa [Nat.add_assoc, Nat.add_comm 1 j] using this) (by omega) (fun j hj => ⟨x, by rw [show j = i by omega]; exact hx, rfl⟩) (by omega)
        rw [show ((i + 1 : Nat) : Int) = (i : Int) + 1 from rfl] at ih2
        generalize eachI (place_Check_b11 a) place_Check_k12 ((i : Int) + 1) k = nx at ih2 ⊢
        generalize each wandererref_CheckCos_b3 wandererref_CheckCos_k4 k = nx2 at ih2 ⊢
        unfold place_Check_b11 wandererref_CheckCos_b3
        rw [rg_eq, mn_eq, ← rg, ← mn]
        cases hr : rg x with
        | true => rfl
        | false =>
        cases hm : mn x with
        | true => rfl
        | false =>
        have hok := (coOk_iff x).2 ⟨hr, hm⟩
        simp only [cond_false]
        unfold place_Check_j10
        cases i with
        | zero =>
          rw [h0 rfl, dF (show ¬ x.id_ ≤ -1 by have := hok.1; omega)]
          simpa using ih2
        | succ j =>
          obtain ⟨y, hy, hyl⟩ := h1 j rfl
          rw [dT (show (0 : Int) < ((j + 1 : Nat) : Int) by omega), show ((j + 1 : Nat) : Int) - 1 = (j : Int) by omega, gI, idx_nat, hy]
          simp only [cond_true, bnd, hyl]
          cases decide (x.id_ ≤ last) with
          | true => rfl
          | false => exact ih2
    exact key a 0 (-1) (fun j => by simp) (fun _ => rfl) (fun j hj => by omega) (by omega)
abbrev Up (l : List Co) : Prop := l.Pairwise (fun x y => x.id_ < y.id_)
theorem each_ok : ∀ (l : List Co) (last : Int), each wandererref_CheckCos_b3 wandererref_CheckCos_k4 l last = 0 ↔ (∀ x ∈ l, coOk x) ∧ Up l ∧ ∀ x ∈ l, last < x.id_
  | [], last => by simp [each_nil, wandererref_CheckCos_k4]
  | x :: r, last => by
    rw [each_cons]
    have ih := each_ok r x.id_
    generalize each wandererref_CheckCos_b3 wandererref_CheckCos_k4 r = nx at ih ⊢
    unfold wandererref_CheckCos_b3
    rw [rg_eq, mn_eq]
    have hok := coOk_iff x
    cases hr : rg x with
    | true =>
      simp only [cond_true]
      constructor
      · intro h; exact absurd h (by decide)
      · intro h; have := (hok.1 (h.1 x List.mem_cons_self)).1; rw [hr] at this; cases this
    | false =>
    cases hm : mn x with
    | true =>
      simp only [cond_true, cond_false]
      constructor
      · intro h; exact absurd h (by decide)
      · intro h; have := (hok.1 (h.1 x List.mem_cons_self)).2; rw [hm] at this; cases this
    | false =>
    have ho := hok.2 ⟨hr, hm⟩
    simp only [cond_false]
    by_cases hl : x.id_ ≤ last
    · rw [dT hl]
      simp only [cond_true]
      constructor
      · intro h; exact absurd h (by decide)
      · intro h; have := h.2.2 x List.mem_cons_self; omega
    · rw [dF hl]
      simp only [cond_false]
      rw [ih]
      show _ ↔ _ ∧ List.Pairwise _ (x :: r) ∧ _
      rw [List.pairwise_cons]
      constructor
      · rintro ⟨h1, h2, h3⟩
        refine ⟨?_, ⟨h3, h2⟩, ?_⟩
        · intro y hy
          rcases List.mem_cons.1 hy with rfl | hy
          · exact ho
          · exact h1 y hy
        · intro y hy
          rcases List.mem_cons.1 hy with rfl | hy
          · omega
          · have := h3 y hy; omega
      · rintro ⟨h1, ⟨h2, h3⟩, h4⟩
        exact ⟨fun y hy => h1 y (List.mem_cons_of_mem _ hy), h3, h2⟩
structure Good (l : List Co) : Prop where
  len : l.length ≤ 3
  ok : ∀ x ∈ l, coOk x
  up : Up l
theorem good_iff (l : List Co) : wandererref_CheckCos l = 0 ↔ Good l := by
  unfold wandererref_CheckCos
  by_cases h : (3 : Int) < (l.length : Int)
  · rw [dT h]
    simp only [cond_true]
    exact ⟨fun h => absurd h (by decide), fun g => by have := g.len; omega⟩
  · rw [dF h]
    simp only [cond_false]
    rw [each_ok]
    exact ⟨fun ⟨h1, h2, _⟩ => ⟨by omega, h1, h2⟩, fun g => ⟨g.ok, g.up, fun x hx => by have := (g.ok x hx).1; omega⟩⟩
/-- One more, by number. -/
def insC (c : Co) : List Co → List Co
  | [] => [c]
  | x :: r => if x.id_ < c.id_ then x :: insC c r else c :: x :: r
def oth (b : Rec) (l : List Co) : List Co := l.filter fun x => decide (x.id_ ≠ b.co)
def hereOf (b : Rec) (l : List Co) : Option Co := l.find? fun x => decide (x.id_ = b.co)
def pNext (a : List Co) (b : Rec) : List Co × Int :=
  if wandererref_CheckCos a ≠ 0 then ([], wandererref_CheckCos a) else if wandererref_CheckRec b ≠ 0 then ([], wandererref_CheckRec b) else
  match hereOf b a with
  | none => if b.kind = 1 ∨ b.kind = 4 then (if (decide (b.epoch = 1) != decide (b.kind = 1)) = true then ([], 7) else (insC ⟨b.co, b.epoch, b.image, -1⟩ (oth b a), 0)) else ([], 5)
  | some c => if b.kind = 1 ∨ b.kind = 4 then ([], 6) else if (decide (b.epoch ≠ c.epoch) || (decide (c.offered ≠ -1) != decide (b.kind = 5))) = true then ([], 7) else
    if b.kind = 5 then (oth b a, 0) else if b.kind = 2 then (insC ⟨c.id_, c.epoch, b.image, c.offered⟩ (oth b a), 0) else if c.epoch = 100 then ([], 2) else (insC ⟨c.id_, c.epoch, c.image, b.place⟩ (oth b a), 0)
-- the document's way
theorem oth_len (b : Rec) (l : List Co) : (oth b l).length ≤ l.length := List.length_filter_le _ _
theorem oth_up (b : Rec) {l : List Co} (h : Up l) : Up (oth b l) := h.filter _
theorem oth_mem {b : Rec} {l : List Co} {x : Co} (h : x ∈ oth b l) : x ∈ l ∧ x.id_ ≠ b.co := by
  unfold oth at h
  rw [List.mem_filter] at h
  exact ⟨h.1, by simpa using h.2⟩
theorem coCopy {a : List Co} (h : a.length ≤ 3) (h2 : ∀ x ∈ a, x.image.length ≤ 1200) : place_Copy a = some a := by
  unfold place_Copy
  rw [clone_s (by omega) (by omega)]
  simp only [bnd, Int.toNat_natCast]
  have key : ∀ (m i : Nat), i + m = a.length → upto place_Copy_b3 place_Copy_k4 (i : Int) m a = some a := by
    intro m
    induction m with
    | zero => intro i _; rfl
    | succ m ih =>
      intro i hi
      have h1 : i < a.length := by omega
      show place_Copy_b3 (i : Int) a (upto place_Copy_b3 place_Copy_k4 ((i : Int) + 1) m) = _
      have hi2 := ih (i + 1) (by omega)
      rw [show ((i + 1 : Nat) : Int) = (i : Int) + 1 from rfl] at hi2
      generalize upto place_Copy_b3 place_Copy_k4 ((i : Int) + 1) m = nx at hi2 ⊢
      unfold place_Copy_b3
      rw [idx_lt h1]
      have := h2 a[i] (List.getElem_mem h1)
      simp only [bnd]
      rw [clone_s (by omega) (by omega)]
      simp only [bnd, Int.toNat_natCast]
      rw [show ({ a[i] with image := a[i].image } : Co) = a[i] from rfl, List.set_getElem_self]
      exact hi2
  simpa using key a.length 0 (by omega)
theorem findEq (a : List Co) (k : Int) : place_Find a k = some (match a.findIdx? (fun x => decide (x.id_ = k)) with | some n => (n : Int) | none => -1) := by
  unfold place_Find
  simp only [Int.toNat_natCast]
  rw [upto_find (fun x => decide (x.id_ = k)) (fun i => some i) a (fun i x nx hx => by
    unfold place_Find_b7
    rw [idx_nat, hx]; rfl)]
  cases a.findIdx? (fun x => decide (x.id_ = k)) <;> rfl
/-- Where it is. -/
theorem idx_here (b : Rec) : ∀ (a : List Co), (hereOf b a = none ∧ a.findIdx? (fun x => decide (x.id_ = b.co)) = none ∧ oth b a = a) ∨
    ∃ n x, hereOf b a = some x ∧ a.findIdx? (fun x => decide (x.id_ = b.co)) = some n ∧ a[n]? = some x ∧ x.id_ = b.co
  | [] => .inl ⟨rfl, rfl, rfl⟩
  | x :: r => by
    unfold hereOf oth
    rw [List.find?_cons, List.findIdx?_cons, List.filter_cons]
    by_cases h : x.id_ = b.co
    · exact .inr ⟨0, x, by simp [h], by simp [h], rfl, h⟩
    · simp only [h, decide_false, Bool.false_eq_true, if_false, ne_eq, not_false_eq_true, decide_true, if_true]
      rcases idx_here b r with ⟨h1, h2, h3⟩ | ⟨n, y, h1, h2, h3, h4⟩
      · exact .inl ⟨h1, by rw [h2]; rfl, by unfold oth at h3; rw [h3]⟩
      · exact .inr ⟨n + 1, y, h1, by rw [h2]; rfl, by simpa using h3, h4⟩
theorem set_ins (b : Rec) : ∀ (a : List Co) (n : Nat) (x y : Co), Up a → a[n]? = some x → x.id_ = b.co → y.id_ = b.co → a.set n y = insC y (oth b a)
  | [], n, x, y, _, h, _, _ => by simp at h
  | z :: r, 0, x, y, hu, h, hx, hy => by
    simp only [List.getElem?_cons_zero, Option.some.injEq] at h
    subst h
    rw [Up, List.pairwise_cons] at hu
    have h1 : oth b (z :: r) = r := by
      unfold oth
      rw [List.filter_cons, if_neg (by simp [hx]), List.filter_eq_self]
      intro u hu2
      have := hu.1 u hu2
      simp; omega
    rw [h1, List.set_cons_zero]
    cases r with
    | nil => rfl
    | cons u r =>
      have := hu.1 u List.mem_cons_self
      simp only [insC]
      rw [if_neg (by omega)]
  | z :: r, n + 1, x, y, hu, h, hx, hy => by
    simp only [List.getElem?_cons_succ] at h
    rw [Up, List.pairwise_cons] at hu
    have hz := hu.1 x (List.mem_of_getElem? h)
    have h1 : oth b (z :: r) = z :: oth b r := by unfold oth; rw [List.filter_cons, if_pos (by simp; omega)]
    rw [h1, List.set_cons_succ, set_ins b r n x y hu.2 h hx hy]
    simp only [insC]
    rw [if_pos (by omega)]
theorem del_oth (b : Rec) : ∀ (a : List Co) (n : Nat) (x : Co), Up a → a[n]? = some x → x.id_ = b.co → a.take n ++ a.drop (n + 1) = oth b a
  | [], n, x, _, h, _ => by simp at h
  | z :: r, 0, x, hu, h, hx => by
    simp only [List.getElem?_cons_zero, Option.some.injEq] at h
    subst h
    rw [Up, List.pairwise_cons] at hu
    unfold oth
    rw [List.filter_cons, if_neg (by simp [hx])]
    have : r.filter (fun x => decide (x.id_ ≠ b.co)) = r := by
      rw [List.filter_eq_self]
      intro u hu2
      have := hu.1 u hu2
      simp; omega
    rw [this]; simp
  | z :: r, n + 1, x, hu, h, hx => by
    simp only [List.getElem?_cons_succ] at h
    rw [Up, List.pairwise_cons] at hu
    have hz := hu.1 x (List.mem_of_getElem? h)
    have h1 : oth b (z :: r) = z :: oth b r := by unfold oth; rw [List.filter_cons, if_pos (by simp; omega)]
    rw [h1, ← del_oth b r n x hu.2 h hx]
    simp
theorem ins_loop (b : Rec) (a : List Co) (ha : a.length ≤ 3) (hb : b.image.length ≤ 1200) : ∀ (k i N : Nat), i + k = a.length → k < N → again (place_Next_b28 a b) N (i : Int) = some (a.take i ++ insC ⟨b.co, b.epoch, b.image, -1⟩ (a.drop i), 0)
  | 0, i, N + 1, h, _ => by
    show place_Next_b28 a b (i : Int) (again (place_Next_b28 a b) N) = _
    generalize again (place_Next_b28 a b) N = nx
    unfold place_Next_b28 place_Next_j27
    rw [dF (by omega)]
    simp only [cond_false]
    rw [clone_s (by omega) (by omega)]
    simp only [bnd]
    rw [grd_t (Room.mk (by simp; omega) (by simp; omega)), ins1, if_pos ⟨by omega, by omega⟩]
    rw [List.drop_eq_nil_of_le (show a.length ≤ i by omega)]
    simp [insC, show a.drop i = [] from List.drop_eq_nil_of_le (by omega)]
  | k + 1, i, N + 1, h, hN => by
    have hi : i < a.length := by omega
    have ih := ins_loop b a ha hb k (i + 1) N (by omega) (by omega)
    rw [show ((i + 1 : Nat) : Int) = (i : Int) + 1 from rfl] at ih
    show place_Next_b28 a b (i : Int) (again (place_Next_b28 a b) N) = _
    generalize again (place_Next_b28 a b) N = nx at ih ⊢
    unfold place_Next_b28 place_Next_j27
    rw [dT (by omega), idx_lt hi]
    simp only [cond_true, bnd]
    by_cases hl : a[i].id_ < b.co
    · rw [dT hl]
      simp only [cond_true]
      rw [gI, ih, List.drop_eq_getElem_cons hi]
      simp only [insC]
      rw [if_pos hl, List.take_succ_eq_append_getElem hi, List.append_assoc, List.singleton_append]
    · rw [dF hl]
      simp only [cond_false]
      rw [clone_s (by omega) (by omega)]
      simp only [bnd]
      rw [grd_t (Room.mk (by simp; omega) (by simp; omega)), ins1, if_pos ⟨by omega, by omega⟩]
      simp only [bnd, Int.toNat_natCast]
      rw [List.drop_eq_getElem_cons hi]
      simp only [insC]
      rw [if_neg hl, List.append_assoc, List.singleton_append]
theorem next_eq (N : Nat) (hN : 5 < N) (a : List Co) (b : Rec) : place_Next N a b = some (pNext a b) := by
  unfold place_Next pNext
  rw [chkEq]
  simp only [bnd]
  by_cases h1 : wandererref_CheckCos a = 0
  · rw [rec_eq]
    by_cases h2 : wandererref_CheckRec b = 0
    · have g := (good_iff a).1 h1
      have gr := goodR b h2
      have gl := g.len
      rw [h1, h2]
      simp only [ne_eq, not_true_eq_false, decide_false, cond_false, if_false]
      rw [coCopy g.len (fun x hx => (g.ok x hx).2.2.2.2.2.2.2)]
      simp only [bnd]
      rw [findEq]
      simp only [bnd]
      have hgk := gr.kind
      have hk14 : (decide ((b.kind : Int) = 1) || decide ((b.kind : Int) = 4)) = decide (b.kind = 1 ∨ b.kind = 4) := by simp
      rw [hk14]
      rcases idx_here b a with ⟨e1, e2, e3⟩ | ⟨n, c, e1, e2, e3, e4⟩
      · rw [e1, e2]
        simp only
        by_cases hk : b.kind = 1 ∨ b.kind = 4
        · rw [dT hk, if_pos hk]
          simp only [cond_true]
          rw [show decide ((0 : Int) ≤ -1) = false by decide]
          simp only [cond_false]
          have el : ((decide ((b.kind : Int) = 1) && decide ((b.epoch : Int) ≠ 1)) || (decide ((b.kind : Int) = 4) && decide ((b.epoch : Int) = 1))) = (decide (b.epoch = 1) != decide (b.kind = 1)) := by
            by_cases q : b.epoch = 1
            · rcases hk with k | k <;> simp [q, k]
            · rcases hk with k | k <;> simp [q, k]
          rw [el]
          cases (decide (b.epoch = 1) != decide (b.kind = 1)) with
          | true => rfl
          | false =>
            simp only [cond_false, Bool.false_eq_true, if_false]
            have := ins_loop b a g.len gr.image a.length 0 N (by omega) (by omega)
            simp only [Int.natCast_zero, List.take_zero, List.drop_zero, List.nil_append] at this
            rw [this, e3]
        · rw [dF hk, if_neg hk]
          simp only [cond_false]
          rw [show decide ((-1 : Int) < 0) = true by decide]; rfl
      · have hn : n < a.length := by
          rcases Nat.lt_or_ge n a.length with h | h
          · exact h
          · rw [List.getElem?_eq_none h] at e3; cases e3
        have hok := g.ok c (List.mem_of_getElem? e3)
        rw [e1, e2]
        simp only
        by_cases hk : b.kind = 1 ∨ b.kind = 4
        · rw [dT hk, if_pos hk]
          simp only [cond_true]
          rw [dT (show (0 : Int) ≤ (n : Int) by omega)]; rfl
        · rw [dF hk, if_neg hk]
          simp only [cond_false]
          rw [dF (show ¬ (n : Int) < 0 by omega), idx_nat, e3]
          simp only [cond_false, bnd]
          have ho : decide ((0 : Int) ≤ c.offered) = decide (c.offered ≠ -1) := by
            rw [decide_eq_decide]; have := hok.2.2.2.2.1; omega
          have hj : (bif decide (c.epoch ≠ b.epoch) then place_Next_j30 b a (n : Int) c true else place_Next_j30 b a (n : Int) c (decide (b.kind = 5) != decide ((0 : Int) ≤ c.offered))) = place_Next_j30 b a (n : Int) c (decide (b.epoch ≠ c.epoch) || (decide (c.offered ≠ -1) != decide (b.kind = 5))) := by
            rw [ho]
            by_cases q : b.epoch = c.epoch
            · rw [q]
              simp only [ne_eq, not_true_eq_false, decide_false, cond_false, Bool.false_or]
              cases decide (b.kind = 5) <;> cases decide (¬c.offered = -1) <;> rfl
            · rw [show decide (c.epoch ≠ b.epoch) = true from dT (fun h => q h.symm), show decide (b.epoch ≠ c.epoch) = true from dT q]; rfl
          refine hj.trans ?_
          unfold place_Next_j30
          cases (decide (b.epoch ≠ c.epoch) || (decide (c.offered ≠ -1) != decide (b.kind = 5))) with
          | true => rfl
          | false =>
            simp only [cond_false, Bool.false_eq_true, if_false]
            by_cases k2 : b.kind = 2
            · rw [dT k2, if_neg (by omega), if_pos k2]
              simp only [cond_true]
              rw [clone_s (by have := gr.image; omega) (by have := gr.image; omega)]
              simp only [bnd, Int.toNat_natCast]
              rw [set_ins b a n c { c with image := b.image } g.up e3 e4 e4]
            · rw [dF k2, if_neg k2]
              simp only [cond_false]
              by_cases k3 : b.kind = 3
              · rw [dT k3, if_neg (by omega)]
                simp only [cond_true]
                by_cases he : c.epoch = 100
                · rw [dT he, if_pos he]; rfl
                · rw [dF he, if_neg he]
                  simp only [cond_false, Int.toNat_natCast]
                  rw [set_ins b a n c { c with offered := b.place } g.up e3 e4 e4]
              · have k5 : b.kind = 5 := by omega
                rw [dF k3, dT k5, if_pos k5]
                simp only [cond_false, cond_true]
                rw [gI, del_s1 hn]
                simp only [bnd]
                rw [del_oth b a n c g.up e3 e4]
    · rw [h1]
      simp only [ne_eq, not_true_eq_false, decide_false, cond_false, if_false]
      rw [show decide (¬wandererref_CheckRec b = 0) = true from dT h2, if_pos h2]; rfl
  · rw [show decide (wandererref_CheckCos a ≠ 0) = true from dT h1, if_pos h1]; rfl
end Go.Proofs.YthlibjllfckhjaaDoor

namespace Go.Proofs.YthlibjllfckhjaaDoor
open Go Go.Proofs Go.LX
theorem held10 : wandererlaw_held 10 = some true := by decide +kernel
theorem held_ok (N : Nat) (hN : 5 < N) : wandererlaw_held N = some true := by
  rw [← held10]
  unfold wandererlaw_held
  simp only [next_eq N hN, next_eq 10 (by decide)]
def pRep : List Co → List Rec → List Co × Int
  | s, [] => (s, 0)
  | s, r :: l => if (pNext s r).2 ≠ 0 then ([], (pNext s r).2) else pRep (pNext s r).1 l
theorem rep_each (N : Nat) (hN : 5 < N) : ∀ (l : List Rec) (s : List Co), each (place_Replay_b3 N) place_Replay_k4 l s = some (pRep s l)
  | [], s => by simp [each_nil, place_Replay_k4, pRep]
  | r :: l, s => by
    rw [each_cons, place_Replay_b3, next_eq N hN, bnd, pRep]
    by_cases h : (pNext s r).2 = 0
    · rw [dF (by omega), cond_false, if_neg (by omega), rep_each N hN l]
    · rw [dT h, cond_true, if_pos h]
theorem replay_eq (N : Nat) (hN : 5 < N) (l : List Rec) : place_Replay N l = some (if 120 < l.length then ([], 2) else pRep [] l) := by
  unfold place_Replay
  by_cases h : 120 < l.length
  · rw [dT (by omega), cond_true, if_pos h]
  · rw [dF (by omega), cond_false, if_neg h, rep_each N hN]
theorem pRep_app : ∀ (a b : List Rec) (s : List Co), pRep s (a ++ b) = if (pRep s a).2 ≠ 0 then ([], (pRep s a).2) else pRep (pRep s a).1 b
  | [], b, s => by simp [pRep]
  | r :: a, b, s => by
    rw [List.cons_append, pRep, pRep]
    by_cases h : (pNext s r).2 = 0
    · simp only [h, ne_eq, not_true_eq_false, if_false]
      exact pRep_app a b _
    · simp [h]
theorem pNext_rec {s : List Co} {r : Rec} (h : (pNext s r).2 = 0) : record_Check r = 0 := by
  rw [rec_eq]
  unfold pNext at h
  by_cases h1 : wandererref_CheckCos s = 0
  · rw [if_neg (by omega)] at h
    by_cases h2 : wandererref_CheckRec r = 0
    · exact h2
    · rw [if_pos h2] at h; exact absurd h h2
  · rw [if_pos h1] at h; exact absurd h h1
theorem pRep_recs : ∀ (l : List Rec) (s : List Co), (pRep s l).2 = 0 → ∀ r ∈ l, record_Check r = 0
  | [], _, _, r, hr => by cases hr
  | x :: l, s, h, r, hr => by
    rw [pRep] at h
    by_cases h1 : (pNext s x).2 = 0
    · rw [if_neg (by omega)] at h
      rcases List.mem_cons.1 hr with rfl | hr
      · exact pNext_rec h1
      · exact pRep_recs l _ h r hr
    · rw [if_pos h1] at h; exact absurd h h1
theorem next_each (N : Nat) (hN : 5 < N) (kk : List Co → Option Bool) : ∀ (l : List Rec) (s w : List Co), pRep s l = (w, 0) → each (wandererlaw_PlaceParts_b15 N) kk l s = kk w
  | [], s, w, h => by
    simp only [pRep, Prod.mk.injEq, and_true] at h
    rw [each_nil, h]
  | r :: l, s, w, h => by
    rw [pRep] at h
    by_cases h1 : (pNext s r).2 = 0
    · rw [if_neg (by omega)] at h
      rw [each_cons, wandererlaw_PlaceParts_b15, next_eq N hN, bnd, dF (by omega), cond_false, next_each N hN kk l _ w h]
    · rw [if_pos h1] at h
      exact absurd (congrArg Prod.snd h) h1
theorem put_few {a : List Rec} {r : Rec} (ha : GoodL a) (hl : a.length ≤ 120) (hw : (txt a).length ≤ 60000) (h : record_Check r = 0) :
    dPut ⟨txt a, []⟩ r = (zD, 2) ∨ (dPut ⟨txt a, []⟩ r = (⟨txt a, txt [r]⟩, 0) ∧ (txt a).length + (txt [r]).length ≤ 60000) := by
  unfold dPut putT
  rw [if_neg (by rw [check_txt ha hl (by simpa using hw)]; simp)]
  have e : recText r = (lineOf r, 0) := text_ok h
  rw [e]
  simp only [ne_eq, not_true_eq_false, if_false, List.length_nil, Nat.add_zero, List.nil_append]
  have e2 : txt [r] = lineOf r ++ [10] := by simp [txt]
  by_cases h2 : 60000 < (txt a).length + (lineOf r).length + 1
  · rw [if_pos h2]; exact .inl rfl
  · rw [if_neg h2, e2]; right; exact ⟨rfl, by simp; omega⟩
theorem keep_each (N : Nat) (hN : 60002 ≤ N) (kk : Str × Str → Option Bool) : ∀ (l d : List Rec), GoodL d → (∀ x ∈ l, record_Check x = 0 ∧ RecW x) → d.length + l.length ≤ 120 → (txt d).length ≤ 60000 →
    each (wandererlaw_PlaceParts_b13 N) kk l (txt d, []) = some true ∨ (each (wandererlaw_PlaceParts_b13 N) kk l (txt d, []) = kk (txt (d ++ l), []) ∧ (txt (d ++ l)).length ≤ 60000)
  | [], d, _, _, _, hw => by right; rw [List.append_nil]; exact ⟨rfl, hw⟩
  | r :: l, d, hd, hl, hlen, hw => by
    obtain ⟨h1, h2⟩ := hl r (by simp)
    simp only [List.length_cons] at hlen
    have hb : each (wandererlaw_PlaceParts_b13 N) kk (r :: l) (txt d, []) = (disk_Put N ⟨txt d, []⟩ r).bind fun y101 => bif decide ((y101.2 : Int) ≠ 0) then some (decide ((y101.2 : Int) = 2)) else (disk_Sync N y101.1).bind fun y109 => bif decide ((y109.2 : Int) ≠ 0) then some false else each (wandererlaw_PlaceParts_b13 N) kk l (y109.1.safe, y109.1.wait) := rfl
    rw [hb, put_eq N hN _ _ (by simp) h2, bnd]
    rcases put_few hd (by omega) hw h1 with h | ⟨h, h3⟩
    · left; rw [h]; rfl
    · have gr : GoodL [r] := fun x hx => by simp at hx; subst hx; exact ⟨h1, h2⟩
      rw [h]
      simp only [ne_eq, not_true_eq_false, decide_false, cond_false]
      rw [sync_eq N hN _ (show (txt [r]).length ≤ _ by omega), bnd, sync_txt hd gr (by simp; omega) h3]
      simp only [ne_eq, not_true_eq_false, decide_false, cond_false]
      have ih := keep_each N hN kk l (d ++ [r]) (fun x hx => (List.mem_append.1 hx).elim (hd x) (gr x)) (fun x hx => hl x (List.mem_cons_of_mem _ hx)) (by simp; omega) (by rw [txt_app]; simp; omega)
      rw [List.append_assoc] at ih
      exact ih
theorem placeParts (l : List Rec) (k : Int) (hw : ∀ x ∈ l, RecW x) (hl : l.length ≤ 9223372036854775807) : ∃ N, wandererlaw_PlaceParts N l k = some true := by
  refine ⟨60002, ?_⟩
  have hN := Nat.le_refl 60002
  unfold wandererlaw_PlaceParts
  rw [replay_eq _ (by decide), bnd, held_ok _ (by decide), bnd, bnd]
  by_cases h120 : 120 < l.length
  · rw [if_pos h120]; rfl
  · rw [if_neg h120]
    by_cases h0 : (pRep [] l).2 = 0
    · rw [dF (by omega)]
      simp only [Bool.not_true, Bool.false_or, cond_false]
      obtain ⟨j, j1, j2⟩ := at_eq k l.length (by omega)
      rw [gI, j1, bnd, show (0 : Int) = ((0 : Nat) : Int) from rfl, sub_s (by omega) (by omega), bnd, List.drop_zero, replay_eq _ (by decide), bnd, if_neg (by rw [List.length_take]; omega)]
      have hs := pRep_app (l.take j) (l.drop j) []
      rw [List.take_append_drop] at hs
      have hp : (pRep [] (l.take j)).2 = 0 := by
        rcases Decidable.em ((pRep [] (l.take j)).2 = 0) with h | h
        · exact h
        · rw [if_pos h] at hs
          rw [hs] at h0
          exact absurd h0 h
      rw [if_neg (by omega)] at hs
      rw [dF (by omega), cond_false, sub_s j2 (Nat.le_refl _), bnd, List.take_length]
      obtain ⟨w, e⟩ : ∃ w, pRep [] l = (w, 0) := ⟨_, Prod.ext rfl h0⟩
      rw [next_each _ (by decide) _ (l.drop j) _ w (by rw [← hs, e]), e]
      unfold wandererlaw_PlaceParts_k16
      have hg : ∀ x ∈ l, record_Check x = 0 ∧ RecW x := fun x hx => ⟨pRep_recs l [] h0 x hx, hw x hx⟩
      rcases keep_each 60002 hN (wandererlaw_PlaceParts_k14 60002 w (w, 0) l) l [] good_nil hg (by simp; omega) (by simp [txt]) with h | ⟨h, h2⟩
      · exact h
      · simp only [txt, List.nil_append] at h h2
        rw [h]
        unfold wandererlaw_PlaceParts_k14
        have e0 : ({ safe := txt l, wait := [] } : Disk) = ⟨txt l, txt [] ++ []⟩ := rfl
        simp only
        rw [recover_eq _ hN _ (by simp), bnd, e0, recover_txt hg good_nil (by simp; omega) (by simp) (by simp [txt]; omega), List.append_nil]
        simp only [decide_true, cond_true]
        rw [coSame, bnd, dT rfl, cond_true]
        simp only [ne_eq, not_true_eq_false, decide_false, cond_false, Int.toNat_natCast]
        refine (upto_all2k (bad := some false) (fun a b => decide (a = b)) l l rfl (fun i x y nx h1 h2 => ?_)).trans ?_
        · unfold wandererlaw_PlaceParts_b11
          have hab : x = y := by rw [h1] at h2; exact Option.some.inj h2
          subst hab
          simp only
          rw [idx_nat, h1, bnd, bnd, same_eq, bnd]
          simp
        · rw [all2_eq (fun _ _ => rfl), dT rfl, cond_true]
          rfl
    · rw [dT h0]
      simp
end Go.Proofs.YthlibjllfckhjaaDoor
