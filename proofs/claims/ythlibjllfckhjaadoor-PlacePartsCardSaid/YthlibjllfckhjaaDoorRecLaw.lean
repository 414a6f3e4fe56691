/-
  Plain laws.
-/
import Derived.Test.YthlibjllfckhjaaDoorRec
set_option linter.unusedSimpArgs false
set_option linter.unusedVariables false
namespace Go.Proofs.YthlibjllfckhjaaDoor
open Go Go.Proofs Go.LX
theorem eqInt (a b : List Int) : slices_Equal_int a b = some (decide (a = b)) := by
  unfold slices_Equal_int
  by_cases h : a.length = b.length
  · rw [dF (by omega)]
    simp only [cond_false, Int.toNat_natCast]
    rw [upto_all2 (fun x y => decide (x = y)) a b h rfl (fun i x y nx h1 h2 => by
      unfold slices_Equal_int_b3
      rw [idx_nat, idx_nat, h1, h2]
      by_cases e : x = y <;> simp [e]), all2_eq (fun _ _ => rfl)]
  · rw [dT (by omega)]
    have : a ≠ b := fun e => h (by rw [e])
    rw [dF this]; rfl
theorem rec_eq (r : Rec) : record_Check r = wandererref_CheckRec r := by
  unfold record_Check wandererref_CheckRec wandererref_CheckRec_1_80 wandererref_CheckRec_1_83 wandererref_CheckRec_1_73 wandererref_CheckRec_j2
  have e1 : (((!(wandererref_in r.co 0 2)) || (!(wandererref_in r.epoch 0 100))) || (!(wandererref_in r.place 0 2))) = (((((decide ((r.co : Int) < 0) || decide ((3 : Int) ≤ r.co)) || decide ((r.epoch : Int) < 0)) || decide ((100 : Int) < r.epoch)) || decide ((r.place : Int) < 0)) || decide ((3 : Int) ≤ r.place)) := by
    unfold wandererref_in; rw [Bool.eq_iff_iff]; simp; omega
  rw [e1]
  generalize (((((decide ((r.co : Int) < 0) || decide ((3 : Int) ≤ r.co)) || decide ((r.epoch : Int) < 0)) || decide ((100 : Int) < r.epoch)) || decide ((r.place : Int) < 0)) || decide ((3 : Int) ≤ r.place)) = C1
  generalize (decide ((40 : Int) < (r.says.length : Int)) || decide ((1200 : Int) < (r.image.length : Int))) = C2
  generalize decide ((r.place : Int) ≠ 0) = p0
  generalize decide ((0 : Int) < (r.says.length : Int)) = s1
  generalize decide ((0 : Int) < (r.image.length : Int)) = i1
  generalize decide ((r.epoch : Int) = 0) = e0
  have f73 : ∀ l : Str, (hasB l 73 = true ∨ hasB l 73 = false) := fun l => by cases hasB l 73 <;> simp
  by_cases k1 : r.kind = 1
  · rw [k1, show hasB ((lk (1 : Int) ([(1, [73]), (2, [83, 73]), (3, [80]), (4, [73]), (5, [])] : List (Int × Str))).getD []) 80 = false by decide, show hasB ((lk (1 : Int) ([(1, [73]), (2, [83, 73]), (3, [80]), (4, [73]), (5, [])] : List (Int × Str))).getD []) 83 = false by decide, show hasB ((lk (1 : Int) ([(1, [73]), (2, [83, 73]), (3, [80]), (4, [73]), (5, [])] : List (Int × Str))).getD []) 73 = true by decide]
    cases C1 <;> cases C2 <;> cases p0 <;> cases s1 <;> cases i1 <;> cases e0 <;> rfl
  by_cases k2 : r.kind = 2
  · rw [k2, show hasB ((lk (2 : Int) ([(1, [73]), (2, [83, 73]), (3, [80]), (4, [73]), (5, [])] : List (Int × Str))).getD []) 80 = false by decide, show hasB ((lk (2 : Int) ([(1, [73]), (2, [83, 73]), (3, [80]), (4, [73]), (5, [])] : List (Int × Str))).getD []) 83 = true by decide, show hasB ((lk (2 : Int) ([(1, [73]), (2, [83, 73]), (3, [80]), (4, [73]), (5, [])] : List (Int × Str))).getD []) 73 = true by decide]
    cases C1 <;> cases C2 <;> cases p0 <;> cases s1 <;> cases i1 <;> cases e0 <;> rfl
  by_cases k3 : r.kind = 3
  · rw [k3, show hasB ((lk (3 : Int) ([(1, [73]), (2, [83, 73]), (3, [80]), (4, [73]), (5, [])] : List (Int × Str))).getD []) 80 = true by decide, show hasB ((lk (3 : Int) ([(1, [73]), (2, [83, 73]), (3, [80]), (4, [73]), (5, [])] : List (Int × Str))).getD []) 83 = false by decide, show hasB ((lk (3 : Int) ([(1, [73]), (2, [83, 73]), (3, [80]), (4, [73]), (5, [])] : List (Int × Str))).getD []) 73 = false by decide]
    cases C1 <;> cases C2 <;> cases p0 <;> cases s1 <;> cases i1 <;> cases e0 <;> rfl
  by_cases k4 : r.kind = 4
  · rw [k4, show hasB ((lk (4 : Int) ([(1, [73]), (2, [83, 73]), (3, [80]), (4, [73]), (5, [])] : List (Int × Str))).getD []) 80 = false by decide, show hasB ((lk (4 : Int) ([(1, [73]), (2, [83, 73]), (3, [80]), (4, [73]), (5, [])] : List (Int × Str))).getD []) 83 = false by decide, show hasB ((lk (4 : Int) ([(1, [73]), (2, [83, 73]), (3, [80]), (4, [73]), (5, [])] : List (Int × Str))).getD []) 73 = true by decide]
    cases C1 <;> cases C2 <;> cases p0 <;> cases s1 <;> cases i1 <;> cases e0 <;> rfl
  by_cases k5 : r.kind = 5
  · rw [k5, show hasB ((lk (5 : Int) ([(1, [73]), (2, [83, 73]), (3, [80]), (4, [73]), (5, [])] : List (Int × Str))).getD []) 80 = false by decide, show hasB ((lk (5 : Int) ([(1, [73]), (2, [83, 73]), (3, [80]), (4, [73]), (5, [])] : List (Int × Str))).getD []) 83 = false by decide, show hasB ((lk (5 : Int) ([(1, [73]), (2, [83, 73]), (3, [80]), (4, [73]), (5, [])] : List (Int × Str))).getD []) 73 = false by decide]
    cases C1 <;> cases C2 <;> cases p0 <;> cases s1 <;> cases i1 <;> cases e0 <;> rfl
  rw [show lk r.kind ([(1, [73]), (2, [83, 73]), (3, [80]), (4, [73]), (5, [])] : List (Int × Str)) = none by simp [lk, k1, k2, k3, k4, k5]]
  rw [show (decide ((r.kind : Int) < 1) || decide ((5 : Int) < r.kind)) = true by simp; omega]
  rfl
structure GoodR (r : Rec) : Prop where
  kind : 1 ≤ r.kind ∧ r.kind ≤ 5
  co : 0 ≤ r.co ∧ r.co ≤ 2
  epoch : 1 ≤ r.epoch ∧ r.epoch ≤ 100
  place : 0 ≤ r.place ∧ r.place ≤ 2
  says : r.says.length ≤ 40
  image : r.image.length ≤ 1200
  has : (r.kind = 1 ∨ r.kind = 2 ∨ r.kind = 4) → 1 ≤ r.image.length
theorem goodR (r : Rec) (h : wandererref_CheckRec r = 0) : GoodR r := by
  rw [← rec_eq] at h
  unfold record_Check at h
  have hn : 0 ≤ (r.image.length : Int) := by omega
  generalize hA : (decide ((r.kind : Int) < 1) || decide ((5 : Int) < r.kind)) = A at h
  cases A with
  | true => simp only [cond_true] at h; exact absurd h (by decide)
  | false =>
  simp only [cond_false] at h
  generalize hB : (((((decide ((r.co : Int) < 0) || decide ((3 : Int) ≤ r.co)) || decide ((r.epoch : Int) < 0)) || decide ((100 : Int) < r.epoch)) || decide ((r.place : Int) < 0)) || decide ((3 : Int) ≤ r.place)) = B at h
  cases B with
  | true => simp only [cond_true] at h; exact absurd h (by decide)
  | false =>
  simp only [cond_false] at h
  generalize hC : (decide ((40 : Int) < (r.says.length : Int)) || decide ((1200 : Int) < (r.image.length : Int))) = C at h
  cases C with
  | true => simp only [cond_true] at h; exact absurd h (by decide)
  | false =>
  simp only [cond_false] at h
  generalize hD : ((((decide ((r.kind : Int) ≠ 3) && decide ((r.place : Int) ≠ 0)) || (decide ((r.kind : Int) ≠ 2) && decide ((0 : Int) < (r.says.length : Int)))) || (((decide ((r.kind : Int) = 1) || decide ((r.kind : Int) = 2)) || decide ((r.kind : Int) = 4)) != decide ((0 : Int) < (r.image.length : Int)))) || decide ((r.epoch : Int) = 0)) = D at h
  cases D with
  | true => simp only [cond_true] at h; exact absurd h (by decide)
  | false =>
  simp only [Bool.or_eq_false_iff, decide_eq_false_iff_not, bne_eq_false_iff_eq] at hA hB hC hD
  obtain ⟨⟨⟨_, _⟩, h3⟩, h4⟩ := hD
  refine ⟨by omega, by omega, by omega, by omega, by omega, by omega, fun hk => ?_⟩
  have : ((decide ((r.kind : Int) = 1) || decide ((r.kind : Int) = 2)) || decide ((r.kind : Int) = 4)) = true := by
    simp; omega
  rw [this] at h3
  have h5 : decide ((0 : Int) < (r.image.length : Int)) = true := by
    cases hq : decide ((0 : Int) < (r.image.length : Int)) with
    | true => rfl
    | false => rw [hq] at h3; cases h3
  have := of_decide_eq_true h5
  omega

theorem same_eq (a b : Rec) : record_Same a b = some (decide (a = b)) := by
  unfold record_Same
  rw [eqInt, eqInt]
  obtain ⟨a1, a2, a3, a4, a5, a6⟩ := a
  obtain ⟨b1, b2, b3, b4, b5, b6⟩ := b
  simp only [Rec.mk.injEq, bnd]
  by_cases h1 : a1 = b1 <;> by_cases h2 : a2 = b2 <;> by_cases h3 : a3 = b3 <;> by_cases h4 : a4 = b4 <;> by_cases h5 : a5 = b5 <;> by_cases h6 : a6 = b6 <;> simp [h1, h2, h3, h4, h5, h6]
theorem same_eq2 (a b : Rec) : wandererref_SameRec a b = some (decide (a = b)) := by rw [← same_eq]; rfl
/-- A record whose numbers are ints. -/
def RecW (r : Rec) : Prop := I64 r.kind ∧ I64 r.co ∧ I64 r.epoch ∧ I64 r.place ∧ (∀ x ∈ r.says, I64 x) ∧ (∀ x ∈ r.image, I64 x)
def nl (r : Rec) : List Int := [r.kind, r.co, r.epoch, r.place, (r.says.length : Int)] ++ r.says ++ r.image
def zR : Rec := ⟨0, 0, 0, 0, [], []⟩
def recText (r : Rec) : Str × Int := if record_Check r = 0 then (joinC 32 ((nl r).map Lib.itoa), 0) else ([], record_Check r)
def mkRec (l : List Int) (n : Nat) : Rec := ⟨l.getD 0 0, l.getD 1 0, l.getD 2 0, l.getD 3 0, (l.take (5 + n)).drop 5, l.drop (5 + n)⟩
def fromNums (l : List Int) : Rec × Int :=
  if l.length < 5 then (zR, 1) else if l.getD 4 0 < 0 ∨ (l.length : Int) - 5 < l.getD 4 0 then (zR, 1) else
  if record_Check (mkRec l (l.getD 4 0).toNat) = 0 then (mkRec l (l.getD 4 0).toNat, 0) else (zR, record_Check (mkRec l (l.getD 4 0).toNat))
def recRead (s : Str) : Rec × Int := match numsC 32 s with | none => (zR, 1) | some l => fromNums l
def recParse (s : Str) : Rec × Int := if (60000 : Int) < (s.length : Int) then (zR, 2) else recRead s
theorem concat5 : ∀ (l : List (List Int)) (acc : List Int), acc.length + (l.map List.length).sum ≤ 1000000 → each slices_Concat_int_b5 slices_Concat_int_k6 l acc = some (acc ++ l.flatten)
  | [], acc, _ => by simp [each_nil, slices_Concat_int_k6]
  | x :: l, acc, h => by
    simp only [List.map_cons, List.sum_cons] at h
    rw [each_cons, slices_Concat_int_b5, grd_t ⟨by omega, by omega⟩, concat5 l (acc ++ x) (by rw [List.length_append]; omega)]
    simp
theorem concat7 (a : List (List Int)) : ∀ (l : List (List Int)) (n : Nat), n + (l.map List.length).sum ≤ 1000000 → each slices_Concat_int_b7 (slices_Concat_int_k8 a) l (n : Int) = slices_Concat_int_k8 a ((n + (l.map List.length).sum : Nat) : Int)
  | [], n, _ => by simp [each_nil]
  | x :: l, n, h => by
    simp only [List.map_cons, List.sum_cons] at h ⊢
    rw [each_cons, slices_Concat_int_b7, gI, dF (by omega), cond_false, show ((n : Int) + (x.length : Int)) = ((n + x.length : Nat) : Int) by omega, concat7 a l (n + x.length) (by omega), Nat.add_assoc]
theorem concat_eq (a : List (List Int)) (h : (a.map List.length).sum ≤ 1000000) : slices_Concat_int a = some a.flatten := by
  unfold slices_Concat_int
  have := concat7 a a 0 (by omega)
  rw [show ((0 : Nat) : Int) = 0 from rfl] at this
  rw [this]
  unfold slices_Concat_int_k8
  rw [show growN 8 ((0 + (a.map List.length).sum : Nat) : Int) = some ([] : List Int) by unfold growN; rw [grd_t ⟨by omega, by omega⟩], bnd, concat5 a [] (by simpa using h)]
  simp
theorem concat3 (a b c : List Int) (h : a.length + b.length + c.length ≤ 1000000) : slices_Concat_int [a, b, c] = some (a ++ b ++ c) := by
  rw [concat_eq _ (by simp; omega)]; simp
theorem nl_len (r : Rec) : (nl r).length = 5 + r.says.length + r.image.length := by simp [nl]; omega
theorem nl_ok {r : Rec} (g : GoodR r) (w : RecW r) : ∀ x ∈ nl r, I64 x := by
  obtain ⟨w1, w2, w3, w4, w5, w6⟩ := w
  have hs := g.says
  intro x hx
  simp only [nl, List.mem_append, List.mem_cons, List.not_mem_nil, or_false] at hx
  rcases hx with ((rfl | rfl | rfl | rfl | rfl) | hx) | hx
  · exact w1
  · exact w2
  · exact w3
  · exact w4
  · exact I64.mk (by omega) (by omega)
  · exact w5 x hx
  · exact w6 x hx
theorem nl_goodlen {r : Rec} (g : GoodR r) : (nl r).length ≤ 1245 := by rw [nl_len]; have := g.says; have := g.image; omega
theorem nl_ne (r : Rec) : nl r ≠ [] := by simp [nl]
theorem print_fill : ∀ (l : List Int) (pre : List Str), (∀ x ∈ l, I64 x) → eachI record_Print_b3 record_Print_k4 (pre.length : Int) l (pre ++ List.replicate l.length ([] : Str)) = record_Print_k4 (pre ++ l.map Lib.itoa)
  | [], pre, _ => by simp [eachI_nil]
  | x :: l, pre, h => by
    rw [eachI_cons, record_Print_b3, itoaS_eq (h x (by simp)), bnd, idx_nat]
    have e1 : (pre ++ List.replicate (x :: l).length ([] : Str))[pre.length]? = some [] := by rw [List.getElem?_append_right (Nat.le_refl _)]; simp
    rw [e1, bnd, Int.toNat_natCast]
    have e2 : (pre ++ List.replicate (x :: l).length ([] : Str)).set pre.length (Lib.itoa x) = (pre ++ [Lib.itoa x]) ++ List.replicate l.length ([] : Str) := by
      rw [List.set_append_right _ _ (Nat.le_refl _)]
      simp [List.replicate_succ]
    have e3 : ((pre.length : Int) + 1) = ((pre ++ [Lib.itoa x]).length : Int) := by simp
    rw [e2, e3, print_fill l (pre ++ [Lib.itoa x]) (fun y hy => h y (List.mem_cons_of_mem _ hy))]
    simp
theorem join_ok {l : List Int} (h : ∀ x ∈ l, I64 x) (hl : l.length ≤ 1245) : joinS (l.map Lib.itoa) [32] = some (joinC 32 (l.map Lib.itoa)) := by
  have h1 := joinC_len 32 21 (l.map Lib.itoa) (by intro x hx; obtain ⟨y, hy, rfl⟩ := List.mem_map.1 hx; exact itoa_len (h y hy))
  rw [List.length_map] at h1
  exact joinS_eq 32 (by rw [List.length_map]; omega) (by omega)
theorem print_eq (r : Rec) (hw : record_Check r = 0 → RecW r) : record_Print r = some (recText r) := by
  unfold record_Print recText
  by_cases h : record_Check r = 0
  · have g := goodR r (by rw [← rec_eq]; exact h)
    have hs := g.says
    have hi := g.image
    rw [dF (by omega), cond_false, if_pos h, concat3 _ _ _ (by simp; omega), bnd]
    have hl := nl_goodlen g
    have hok := nl_ok g (hw h)
    show grd _ (eachI record_Print_b3 record_Print_k4 0 (nl r) (List.replicate ((nl r).length : Int).toNat ([] : Str))) = _
    have hl2 : (r.kind :: r.co :: r.epoch :: r.place :: (r.says.length : Int) :: (r.says ++ r.image)).length = (nl r).length := by simp [nl]
    rw [grd_t (by
      refine ⟨by omega, ?_⟩
      have : ([r.kind, r.co, r.epoch, r.place, (r.says.length : Int)] ++ r.says ++ r.image).length = (nl r).length := rfl
      rw [this]; omega), Int.toNat_natCast]
    have := print_fill (nl r) [] hok
    simp only [List.length_nil, List.nil_append] at this
    rw [show ((0 : Nat) : Int) = 0 from rfl] at this
    rw [this]
    unfold record_Print_k4
    rw [join_ok hok hl, bnd]
  · rw [dT h, cond_true, if_neg h]
theorem text_each : ∀ (l : List Int) (acc : List Str), (∀ x ∈ l, I64 x) → acc.length + l.length ≤ 1000000 → each wandererref_RecText_b3 wandererref_RecText_k4 l acc = wandererref_RecText_k4 (acc ++ l.map Lib.itoa)
  | [], acc, _, _ => by simp [each_nil]
  | x :: l, acc, h, hl => by
    simp only [List.length_cons] at hl
    rw [each_cons, wandererref_RecText_b3, itoaS_eq (h x (by simp)), bnd, grd_t ⟨by simp; omega, by simp; omega⟩, text_each l _ (fun y hy => h y (List.mem_cons_of_mem _ hy)) (by simp; omega)]
    simp
theorem text_eq (r : Rec) (hw : record_Check r = 0 → RecW r) : wandererref_RecText r = some (recText r) := by
  unfold wandererref_RecText recText
  rw [← rec_eq]
  by_cases h : record_Check r = 0
  · have g := goodR r (by rw [← rec_eq]; exact h)
    have hs := g.says
    have hi := g.image
    rw [dF (by omega), cond_false, if_pos h, concat3 _ _ _ (by simp; omega), bnd]
    have hl := nl_goodlen g
    have hok := nl_ok g (hw h)
    show each wandererref_RecText_b3 wandererref_RecText_k4 (nl r) [] = _
    rw [text_each (nl r) [] hok (by simp; omega), List.nil_append]
    unfold wandererref_RecText_k4
    rw [join_ok hok hl, bnd]
  · rw [dT h, cond_true, if_neg h]
theorem numbers_each : ∀ (w : List Str) (acc : List Int), (∀ x ∈ w, x.length ≤ 60000) → acc.length + w.length ≤ 1000000 →
    each wandererref_numbers_b27 wandererref_numbers_k28 w acc = some (match w.mapM numOf with | some v => (acc ++ v, true) | none => ([], false))
  | [], acc, _, _ => by simp [each_nil, wandererref_numbers_k28]
  | x :: w, acc, h, hl => by
    have hx := h x (by simp)
    simp only [List.length_cons] at hl
    have ih := fun y => numbers_each w (acc ++ [y]) (fun z hz => h z (List.mem_cons_of_mem _ hz)) (by simp; omega)
    rw [each_cons, wandererref_numbers_b27, parseS_eq (by omega), bnd, List.mapM_cons]
    cases e : Lib.atoiAll x with
    | ok v =>
      have hv : I64 v := Lib.atoiAll_bounds e
      simp only [cond_false]
      rw [itoaS_eq hv, bnd, wandererref_numbers_j26]
      by_cases hq : Lib.itoa v = x
      · rw [dF (by simpa using hq), cond_false, grd_t ⟨by simp; omega, by simp; omega⟩, ih]
        have : numOf x = some v := by simp [numOf, e, hq]
        rw [this]
        cases e2 : w.mapM numOf with
        | none => rfl
        | some m => simp
      · rw [dT hq, cond_true]
        have : numOf x = none := by simp [numOf, e, hq]
        rw [this]; rfl
    | range =>
      have : numOf x = none := by simp [numOf, e]
      rw [this]; rfl
    | _ =>
      have : numOf x = none := by simp [numOf, e]
      rw [this]; rfl
theorem numbers_eq (s : Str) (h : s.length ≤ 60000) : wandererref_numbers s = some (match numsC 32 s with | some v => (v, true) | none => ([], false)) := by
  unfold wandererref_numbers numsC
  have h1 := splitC_len 32 s
  rw [splitS_eq 32 (by omega), bnd, numbers_each _ [] (fun x hx => by have := splitC_mem 32 s x hx; omega) (by simp; omega)]
  simp
theorem parse_each : ∀ (w : List Str) (acc : List Int), (∀ x ∈ w, x.length ≤ 60000) → acc.length + w.length ≤ 1000000 →
    each record_Parse_b30 record_Parse_k31 w acc = match w.mapM numOf with | some v => record_Parse_k31 (acc ++ v) | none => some (zR, 1)
  | [], acc, _, _ => by simp [each_nil]
  | x :: w, acc, h, hl => by
    have hx := h x (by simp)
    simp only [List.length_cons] at hl
    have ih := fun y => parse_each w (acc ++ [y]) (fun z hz => h z (List.mem_cons_of_mem _ hz)) (by simp; omega)
    rw [each_cons, record_Parse_b30, atoiS_eq (by omega), bnd, List.mapM_cons]
    cases e : Lib.atoiAll x with
    | ok v =>
      have hv : I64 v := Lib.atoiAll_bounds e
      simp only [cond_false]
      rw [itoaS_eq hv, bnd, record_Parse_j26]
      by_cases hq : Lib.itoa v = x
      · rw [dF (by simpa using hq), cond_false, grd_t ⟨by simp; omega, by simp; omega⟩, ih]
        have : numOf x = some v := by simp [numOf, e, hq]
        rw [this]
        cases e2 : w.mapM numOf with
        | none => rfl
        | some m => simp
      · rw [dT hq, cond_true]
        have : numOf x = none := by simp [numOf, e, hq]
        rw [this]; rfl
    | range =>
      have : numOf x = none := by simp [numOf, e]
      rw [this]; rfl
    | _ =>
      have : numOf x = none := by simp [numOf, e]
      rw [this]; rfl
theorem five {l : List Int} (h : ¬ l.length < 5) : ∃ a b c d n r, l = a :: b :: c :: d :: n :: r := by
  match l, h with
  | a :: b :: c :: d :: n :: r, _ => exact ⟨a, b, c, d, n, r, rfl⟩
  | [], h => simp at h
  | [a], h => simp at h
  | [a, b], h => simp at h
  | [a, b, c], h => simp at h
  | [a, b, c, d], h => simp at h
theorem parse_k31 (l : List Int) (hl : l.length ≤ 1000000) (hI : ∀ x ∈ l, I64 x) : record_Parse_k31 l = some (fromNums l) := by
  unfold record_Parse_k31 fromNums
  by_cases h5 : l.length < 5
  · rw [dT (by omega), if_pos h5]; rfl
  · rw [dF (by omega), if_neg h5, cond_false]
    obtain ⟨a, b, c, d, n, r, rfl⟩ := five h5
    have hn : I64 n := hI n (by simp)
    have i4 : idx (a :: b :: c :: d :: n :: r) 4 = some n := rfl
    rw [i4, bnd]
    have g4 : (a :: b :: c :: d :: n :: r).getD 4 0 = n := rfl
    rw [g4]
    by_cases h0 : n < 0
    · rw [dT h0, if_pos (.inl h0)]; rfl
    · rw [dF h0, cond_false]
      simp only [List.length_cons] at hl ⊢
      rw [gI]
      by_cases h1 : ((r.length + 1 + 1 + 1 + 1 + 1 : Nat) : Int) - 5 < n
      · rw [dT h1, if_pos (.inr h1)]; rfl
      · rw [dF h1, if_neg (by omega)]
        unfold record_Parse_j28
        obtain ⟨m, rfl⟩ := Int.eq_ofNat_of_zero_le (show 0 ≤ n by omega)
        rw [cond_false, show idx (a :: b :: c :: d :: (m : Int) :: r) 0 = some a from rfl, bnd, show idx (a :: b :: c :: d :: (m : Int) :: r) 1 = some b from rfl, bnd, show idx (a :: b :: c :: d :: (m : Int) :: r) 2 = some c from rfl, bnd, show idx (a :: b :: c :: d :: (m : Int) :: r) 3 = some d from rfl, bnd, show idx (a :: b :: c :: d :: (m : Int) :: r) 4 = some (m : Int) from rfl, bnd, gI]
        rw [show (5 + (m : Int)) = ((5 + m : Nat) : Int) by omega, show (5 : Int) = ((5 : Nat) : Int) from rfl, sub_s (by omega) (by simp; omega), bnd, gI, sub_s (by simp; omega) (Nat.le_refl _), bnd, clone_s (by simp; omega) (by simp; omega), bnd, clone_s (by simp; omega) (by simp; omega), bnd]
        have e1 : ((a :: b :: c :: d :: (m : Int) :: r).take (a :: b :: c :: d :: (m : Int) :: r).length).drop (5 + m) = (a :: b :: c :: d :: (m : Int) :: r).drop (5 + m) := by rw [List.take_length]
        rw [e1]
        unfold record_Parse_j29
        show (bif decide ((record_Check (mkRec (a :: b :: c :: d :: (m : Int) :: r) m) : Int) ≠ 0) then some (zR, record_Check (mkRec (a :: b :: c :: d :: (m : Int) :: r) m)) else some (mkRec (a :: b :: c :: d :: (m : Int) :: r) m, 0)) = _
        rw [Int.toNat_natCast]
        by_cases hc : record_Check (mkRec (a :: b :: c :: d :: (m : Int) :: r) m) = 0
        · rw [dF (by omega), if_pos hc]; rfl
        · rw [dT hc, if_neg hc]; rfl
theorem parse_eq (s : Str) : record_Parse s = some (recParse s) := by
  unfold record_Parse recParse
  by_cases h : (60000 : Int) < (s.length : Int)
  · rw [dT h, if_pos h]; rfl
  · rw [dF h, if_neg h, cond_false]
    have h1 := splitC_len 32 s
    rw [splitS_eq 32 (by omega), bnd, parse_each _ [] (fun x hx => by have := splitC_mem 32 s x hx; omega) (by simp; omega)]
    unfold recRead
    cases e : numsC 32 s with
    | none => unfold numsC at e; rw [e]
    | some l =>
      have := mapM_num_some (show (splitC 32 s).mapM numOf = some l from e)
      unfold numsC at e
      rw [e]
      have hl : l.length ≤ 1000000 := by
        have h2 := congrArg List.length this.1
        rw [List.length_map] at h2
        omega
      simp only [List.nil_append]
      exact parse_k31 l hl this.2
theorem read_eq (s : Str) (h : s.length ≤ 60000) : wandererref_RecRead s = some (recRead s) := by
  unfold wandererref_RecRead
  rw [numbers_eq s h, bnd]
  unfold recRead
  cases e : numsC 32 s with
  | none => rfl
  | some l =>
    have this := mapM_num_some (show (splitC 32 s).mapM numOf = some l from e)
    have h1 := splitC_len 32 s
    have hl : l.length ≤ 1000000 := by
      have h2 := congrArg List.length this.1
      rw [List.length_map] at h2
      omega
    simp only [Bool.not_true, Bool.false_or]
    unfold fromNums
    by_cases h5 : l.length < 5
    · rw [dT (by omega), if_pos h5]; rfl
    · rw [dF (by omega), if_neg h5, cond_false]
      obtain ⟨a, b, c, d, n, r, rfl⟩ := five h5
      have hn : I64 n := this.2 n (by simp)
      rw [show idx (a :: b :: c :: d :: n :: r) 4 = some n from rfl, bnd, show (a :: b :: c :: d :: n :: r).getD 4 0 = n from rfl]
      simp only [List.length_cons] at hl ⊢
      rw [gI]
      by_cases h0 : n < 0 ∨ ((r.length + 1 + 1 + 1 + 1 + 1 : Nat) : Int) - 5 < n
      · rw [if_pos h0, show (!(wandererref_in n 0 (((r.length + 1 + 1 + 1 + 1 + 1 : Nat) : Int) - 5))) = true by unfold wandererref_in; simp; omega]; rfl
      · rw [if_neg h0, show (!(wandererref_in n 0 (((r.length + 1 + 1 + 1 + 1 + 1 : Nat) : Int) - 5))) = false by unfold wandererref_in; simp; omega]
        unfold wandererref_RecRead_j2
        obtain ⟨m, rfl⟩ := Int.eq_ofNat_of_zero_le (show 0 ≤ n by omega)
        rw [cond_false, show idx (a :: b :: c :: d :: (m : Int) :: r) 4 = some (m : Int) from rfl, bnd, gI, show idx (a :: b :: c :: d :: (m : Int) :: r) 0 = some a from rfl, bnd, show idx (a :: b :: c :: d :: (m : Int) :: r) 1 = some b from rfl, bnd, show idx (a :: b :: c :: d :: (m : Int) :: r) 2 = some c from rfl, bnd, show idx (a :: b :: c :: d :: (m : Int) :: r) 3 = some d from rfl, bnd]
        rw [show (5 + (m : Int)) = ((5 + m : Nat) : Int) by omega, show (5 : Int) = ((5 : Nat) : Int) from rfl, sub_s (by omega) (by simp; omega), bnd, sub_s (by simp; omega) (Nat.le_refl _), bnd]
        have e1 : ((a :: b :: c :: d :: (m : Int) :: r).take (a :: b :: c :: d :: (m : Int) :: r).length).drop (5 + m) = (a :: b :: c :: d :: (m : Int) :: r).drop (5 + m) := by rw [List.take_length]
        rw [e1, ← rec_eq]
        show (bif decide ((record_Check (mkRec (a :: b :: c :: d :: (m : Int) :: r) m) : Int) ≠ 0) then some (zR, record_Check (mkRec (a :: b :: c :: d :: (m : Int) :: r) m)) else some (mkRec (a :: b :: c :: d :: (m : Int) :: r) m, 0)) = _
        rw [Int.toNat_natCast]
        by_cases hc : record_Check (mkRec (a :: b :: c :: d :: (m : Int) :: r) m) = 0
        · rw [dF (by omega), if_pos hc]; rfl
        · rw [dT hc, if_neg hc]; rfl
end Go.Proofs.YthlibjllfckhjaaDoor

namespace Go.Proofs.YthlibjllfckhjaaDoor
open Go Go.Proofs Go.LX
theorem mkRec_nl (r : Rec) : mkRec (nl r) r.says.length = r := by
  obtain ⟨k, c, e, p, s, i⟩ := r
  unfold mkRec nl
  have h1 : ((([k, c, e, p, (s.length : Int)] ++ s ++ i).take (5 + s.length)).drop 5) = s := by
    rw [List.append_assoc, show 5 + s.length = ([k, c, e, p, (s.length : Int)]).length + s.length from rfl, List.take_length_add_append, List.take_left]
    rfl
  have h2 : ([k, c, e, p, (s.length : Int)] ++ s ++ i).drop (5 + s.length) = i := by
    rw [show 5 + s.length = ([k, c, e, p, (s.length : Int)] ++ s).length by simp; omega, List.drop_left]
  simp only [h1, h2]
  rfl
theorem fromNums_nl {r : Rec} (h : record_Check r = 0) : fromNums (nl r) = (r, 0) := by
  have hl := nl_len r
  unfold fromNums
  rw [if_neg (by omega), show (nl r).getD 4 0 = (r.says.length : Int) from rfl, if_neg (by omega), Int.toNat_natCast, mkRec_nl, if_pos h]
theorem read_print {r : Rec} (h : record_Check r = 0) (w : RecW r) : recRead (joinC 32 ((nl r).map Lib.itoa)) = (r, 0) := by
  unfold recRead
  rw [nums_join (by decide) (nl_ne r) (nl_ok (goodR r (by rw [← rec_eq]; exact h)) w)]
  exact fromNums_nl h
theorem nl_mk {l : List Int} {n : Nat} (hl : 5 + n ≤ l.length) (h4 : l.getD 4 0 = n) : nl (mkRec l n) = l := by
  obtain ⟨a, b, c, d, m, r, rfl⟩ := five (l := l) (by omega)
  have hm : m = n := h4
  subst hm
  simp only [List.length_cons] at hl
  have h1 : ((a :: b :: c :: d :: (n : Int) :: r).take (5 + n)).drop 5 = r.take n := by
    rw [show 5 + n = n + 1 + 1 + 1 + 1 + 1 by omega]; rfl
  have h2 : (a :: b :: c :: d :: (n : Int) :: r).drop (5 + n) = r.drop n := by
    rw [show 5 + n = n + 1 + 1 + 1 + 1 + 1 by omega]; rfl
  show [a, b, c, d, ((((a :: b :: c :: d :: (n : Int) :: r).take (5 + n)).drop 5).length : Int)] ++ ((a :: b :: c :: d :: (n : Int) :: r).take (5 + n)).drop 5 ++ (a :: b :: c :: d :: (n : Int) :: r).drop (5 + n) = _
  rw [h1, h2, List.length_take, show min n r.length = n by omega, List.append_assoc, List.take_append_drop]
  rfl
/-- What is read is a record, and its numbers are those of the text. -/
theorem read_ok {s : Str} {r : Rec} (h : recRead s = (r, 0)) : record_Check r = 0 ∧ RecW r ∧ s = joinC 32 ((nl r).map Lib.itoa) := by
  unfold recRead at h
  cases e : numsC 32 s with
  | none => rw [e] at h; cases h
  | some l =>
    rw [e] at h
    obtain ⟨e1, e2, e3⟩ := join_nums e
    simp only at h
    unfold fromNums at h
    split at h
    · cases h
    · rename_i h5
      split at h
      · cases h
      · rename_i h6
        split at h
        · rename_i hc
          obtain ⟨m, hm⟩ := Int.eq_ofNat_of_zero_le (show 0 ≤ l.getD 4 0 by omega)
          rw [hm] at h hc h6
          simp only [Int.toNat_natCast] at h hc
          have hr : mkRec l m = r := by injection h
          have hnl := nl_mk (l := l) (n := m) (by omega) hm
          rw [hr] at hnl hc
          refine ⟨hc, ?_, by rw [hnl]; exact e1⟩
          have hall : ∀ x ∈ nl r, I64 x := by rw [hnl]; exact e2
          refine ⟨hall _ (by simp [nl]), hall _ (by simp [nl]), hall _ (by simp [nl]), hall _ (by simp [nl]), fun x hx => hall x (by simp [nl, hx]), fun x hx => hall x (by simp [nl, hx])⟩
        · rename_i hc
          exact absurd (congrArg Prod.snd h) hc
theorem text_ok {r : Rec} (h : record_Check r = 0) : recText r = (joinC 32 ((nl r).map Lib.itoa), 0) := by unfold recText; rw [if_pos h]
theorem text_inj {a b : Rec} (ha : record_Check a = 0) (hb : record_Check b = 0) (wa : RecW a) (wb : RecW b) : (recText a).1 = (recText b).1 ↔ a = b := by
  constructor
  · intro h
    rw [text_ok ha, text_ok hb] at h
    have h1 := read_print ha wa
    rw [show joinC 32 ((nl a).map Lib.itoa) = joinC 32 ((nl b).map Lib.itoa) from h, read_print hb wb] at h1
    exact (congrArg Prod.fst h1).symm
  · rintro rfl; rfl
def r0 : Rec := ⟨2, 1, 2, 0, [7, -8], [1]⟩
theorem r0_ok : record_Check r0 = 0 := by decide
theorem r0_w : RecW r0 := by
  refine ⟨by decide, by decide, by decide, by decide, ?_, ?_⟩ <;> · intro x hx; simp [r0] at hx; rcases hx with rfl | rfl <;> decide
theorem itoa_small {k : Nat} (h : k < 10) : Lib.itoa (k : Int) = [UInt8.ofNat (48 + k)] := by
  unfold Lib.itoa
  rw [if_neg (by omega), Int.toNat_natCast, Lib.decDigits_one h]
theorem itoa_m8 : Lib.itoa (-8) = [45, 56] := by
  unfold Lib.itoa
  rw [if_pos (by decide), show (-8 : Int).natAbs = 8 from rfl, Lib.decDigits_one (by decide)]; rfl
theorem r0_text : joinC 32 ((nl r0).map Lib.itoa) = [50, 32, 49, 32, 50, 32, 48, 32, 50, 32, 55, 32, 45, 56, 32, 49] := by
  have h2 := itoa_small (k := 2) (by decide)
  have h1 := itoa_small (k := 1) (by decide)
  have h0 := itoa_small (k := 0) (by decide)
  have h7 := itoa_small (k := 7) (by decide)
  show joinC 32 [Lib.itoa ((2 : Nat) : Int), Lib.itoa ((1 : Nat) : Int), Lib.itoa ((2 : Nat) : Int), Lib.itoa ((0 : Nat) : Int), Lib.itoa ((2 : Nat) : Int), Lib.itoa ((7 : Nat) : Int), Lib.itoa (-8), Lib.itoa ((1 : Nat) : Int)] = _
  rw [h2, h1, h0, h7, itoa_m8]
  decide
theorem lined_ok : wandererlaw_lined = some true := by
  unfold wandererlaw_lined
  show (record_Print r0).bind _ = _
  rw [print_eq r0 (fun _ => r0_w), bnd, text_ok r0_ok, parse_eq, bnd]
  have hl : (joinC 32 ((nl r0).map Lib.itoa)).length = 16 := by rw [r0_text]; rfl
  have hp : recParse (joinC 32 ((nl r0).map Lib.itoa)) = (r0, 0) := by
    unfold recParse
    rw [if_neg (by omega), read_print r0_ok r0_w]
  rw [hp, r0_text]
  show (bif ((decide ((0 : Int) = 0) && decide ((0 : Int) = 0)) && decide (([50, 32, 49, 32, 50, 32, 48, 32, 50, 32, 55, 32, 45, 56, 32, 49] : Str) = [50, 32, 49, 32, 50, 32, 48, 32, 50, 32, 55, 32, 45, 56, 32, 49])) then (record_Same r0 r0).bind fun y16 => some y16 else some false) = some true
  rw [same_eq, dT rfl, dT rfl, dT rfl]; rfl
theorem recordSays (a b : Rec) (c : Str) (ha : RecW a) : wandererlaw_RecordSays a b c = some true := by
  unfold wandererlaw_RecordSays
  rw [print_eq a (fun _ => ha), bnd, parse_eq, bnd, text_eq a (fun _ => ha), bnd, lined_ok, bnd]
  have h2 : record_Check a = (recText a).2 := by
    unfold recText; split
    · assumption
    · rfl
  rw [h2, same_eq, bnd, same_eq2, bnd]
  simp only [ne_eq, not_true_eq_false, decide_false, Bool.not_true, cond_false, bne_self_eq_false]
  unfold wandererlaw_RecordSays_j2
  simp only [cond_false]
  by_cases h : (60000 : Int) < (c.length : Int)
  · have : recParse c = (zR, 2) := by unfold recParse; rw [if_pos h]
    rw [dT h, cond_true, this, dT rfl, cond_true]
    show (wandererref_SameRec zR zR).bind _ = _
    rw [same_eq2, bnd, dT rfl]
  · have : recParse c = recRead c := by unfold recParse; rw [if_neg h]
    rw [dF h, cond_false, read_eq c (by omega), bnd, this, dT rfl, cond_true, same_eq2, bnd, dT rfl]
theorem recordBack (a b : Rec) (c : Str) (ha : RecW a) (hb : RecW b) : wandererlaw_RecordBack a b c = some true := by
  have h4 : wandererlaw_RecordBack_j4 c = some true := by
    unfold wandererlaw_RecordBack_j4
    rw [parse_eq, bnd]
    by_cases h : (recParse c).2 = 0
    · rw [dF (by omega), cond_false]
      have hr : recRead c = ((recParse c).1, 0) := by
        unfold recParse at h ⊢
        split at h
        · simp at h
        · rename_i h6
          rw [if_neg h6]
          exact Prod.ext rfl h
      obtain ⟨k1, k2, k3⟩ := read_ok hr
      rw [print_eq _ (fun _ => k2), bnd, text_ok k1, dT rfl, dT k3.symm]; rfl
    · rw [dT h, cond_true]
  have h2 : wandererlaw_RecordBack_j2 (recText a) c a false = some true := by
    unfold wandererlaw_RecordBack_j2 wandererlaw_RecordBack_j5
    rw [cond_false]
    by_cases h : record_Check a = 0
    · rw [text_ok h, dT rfl]
      by_cases h6 : ((joinC 32 ((nl a).map Lib.itoa)).length : Int) ≤ 60000
      · have hp : recParse (joinC 32 ((nl a).map Lib.itoa)) = (a, 0) := by
          unfold recParse
          rw [if_neg (by omega), read_print h ha]
        rw [dT h6, parse_eq, bnd, hp, dF (by simp), same_eq, bnd, dT rfl]
        exact h4
      · rw [dF h6]
        exact h4
    · have : (recText a).2 ≠ 0 := by unfold recText; rw [if_neg h]; exact h
      rw [dF this]
      exact h4
  unfold wandererlaw_RecordBack
  rw [print_eq a (fun _ => ha), bnd, print_eq b (fun _ => hb), bnd, lined_ok, bnd]
  simp only [Bool.not_true, cond_false]
  by_cases h : record_Check a = 0
  · by_cases h' : record_Check b = 0
    · have e1 : (recText a).2 = 0 := by rw [text_ok h]
      have e2 : (recText b).2 = 0 := by rw [text_ok h']
      rw [dT e1, dT e2, same_eq]
      have e3 : decide ((recText a).1 = (recText b).1) = decide (a = b) := by
        rw [Bool.eq_iff_iff]; simp [text_inj h h' ha hb]
      simp only [Bool.and_self, cond_true, bnd]
      rw [e3, bne_self_eq_false]
      exact h2
    · have e2 : (recText b).2 ≠ 0 := by unfold recText; rw [if_neg h']; exact h'
      rw [dF e2, Bool.and_false, cond_false]
      exact h2
  · have e2 : (recText a).2 ≠ 0 := by unfold recText; rw [if_neg h]; exact h
    rw [dF e2, Bool.false_and, cond_false]
    exact h2
end Go.Proofs.YthlibjllfckhjaaDoor
