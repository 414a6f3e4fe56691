/-
  Plain laws.
-/
import Derived.Test.YtckocfgmnlhcmaaDoorImgb
set_option linter.unusedSimpArgs false
set_option linter.unusedVariables false
namespace Go.LX
open Go.Proofs
/-! A program of instructions as lines of numbers. -/
def insLine (c : Ins) : List Int := c.op :: c.a :: c.b :: c.c :: c.args
def procLines (x : Proc) : List (List Int) := [x.params, x.regs, (x.code.length : Int)] :: x.code.map insLine
def progLines (p : List Proc) : List (List Int) := p.flatMap procLines
def lineT (l : List Int) : Str := joinC 32 (l.map Lib.itoa)
def linesT (l : List (List Int)) : Str := (l.map fun x => lineT x ++ [10]).flatten
def progText (p : List Proc) : Str := linesT (progLines p)
def InsW (c : Ins) : Prop := I64 c.op ∧ I64 c.a ∧ I64 c.b ∧ I64 c.c ∧ ∀ x ∈ c.args, I64 x
def ProcW (x : Proc) : Prop := I64 x.params ∧ I64 x.regs ∧ ∀ c ∈ x.code, InsW c
theorem insLine_ok {c : Ins} (h : InsW c) : ∀ x ∈ insLine c, I64 x := by
  obtain ⟨h1, h2, h3, h4, h5⟩ := h
  intro x hx
  simp only [insLine, List.mem_cons] at hx
  rcases hx with rfl | rfl | rfl | rfl | hx
  · exact h1
  · exact h2
  · exact h3
  · exact h4
  · exact h5 x hx
theorem insLine_w {c : Ins} (h : ∀ x ∈ insLine c, I64 x) : InsW c :=
  ⟨h _ (by simp [insLine]), h _ (by simp [insLine]), h _ (by simp [insLine]), h _ (by simp [insLine]), fun x hx => h x (by simp [insLine, hx])⟩
theorem insLine_ne (c : Ins) : insLine c ≠ [] := by simp [insLine]
/-- One line is read: the procedures so far, how many lines are left of the last. -/
def stepL (l : List Int) (st : List Proc × Int) : Option (List Proc × Int) :=
  if st.2 = 0 then
    match l with
    | [a, b, n] => if n < 1 ∨ 2000 < n then none else some (st.1 ++ [⟨a, b, []⟩], n)
    | _ => none
  else
    match l with
    | op :: a :: b :: c :: args =>
      match st.1.getLast? with
      | none => none
      | some x => some (st.1.dropLast ++ [⟨x.params, x.regs, x.code ++ [⟨op, a, b, c, args⟩]⟩], st.2 - 1)
    | _ => none
def readL : List Str → List Proc × Int → Option (List Proc × Int)
  | [], st => some st
  | w :: ws, st => (numsC 32 w).bind fun l => (stepL l st).bind fun st' => readL ws st'
def stLines (st : List Proc × Int) : List (List Int) :=
  if st.2 = 0 then progLines st.1 else
    match st.1.getLast? with
    | none => []
    | some x => progLines st.1.dropLast ++ ([x.params, x.regs, (x.code.length : Int) + st.2] :: x.code.map insLine)
def StOk (st : List Proc × Int) : Prop := 0 ≤ st.2 ∧ (st.2 ≠ 0 → st.1 ≠ [])
theorem stepL_zero (a b n : Int) (q : List Proc) (h : 1 ≤ n ∧ n ≤ 2000) : stepL [a, b, n] (q, 0) = some (q ++ [⟨a, b, []⟩], n) := by
  unfold stepL
  rw [if_pos rfl]
  simp only
  rw [if_neg (by omega)]
theorem stepL_more (c : Ins) (q : List Proc) (x : Proc) (k : Int) (h : k ≠ 0) : stepL (insLine c) (q ++ [x], k) = some (q ++ [⟨x.params, x.regs, x.code ++ [c]⟩], k - 1) := by
  unfold stepL insLine
  rw [if_neg h]
  simp
theorem stepL_ok {l : List Int} {st st' : List Proc × Int} (h : StOk st) (hs : stepL l st = some st') : StOk st' ∧ stLines st' = stLines st ++ [l] := by
  obtain ⟨q, k⟩ := st
  obtain ⟨h1, h2⟩ := h
  simp only at h1 h2
  unfold stepL at hs
  simp only at hs
  by_cases hk : k = 0
  · subst hk
    rw [if_pos rfl] at hs
    match l, hs with
    | [a, b, n], hs =>
      simp only at hs
      split at hs
      · cases hs
      · rename_i hn
        cases hs
        refine ⟨⟨by simp only; omega, fun _ => by simp⟩, ?_⟩
        unfold stLines
        simp only
        rw [if_neg (by omega), if_pos trivial]
        simp [progLines, procLines]
    | [], hs => cases hs
    | [a], hs => cases hs
    | [a, b], hs => cases hs
    | a :: b :: c :: d :: r, hs => cases hs
  · rw [if_neg hk] at hs
    match l, hs with
    | op :: a :: b :: c :: args, hs =>
      simp only at hs
      have hq : q ≠ [] := h2 hk
      obtain ⟨q', x, rfl⟩ : ∃ q' x, q = q' ++ [x] := ⟨q.dropLast, q.getLast hq, (List.dropLast_concat_getLast hq).symm⟩
      simp only [List.getLast?_append, List.getLast?_singleton, Option.some_or, List.dropLast_concat] at hs
      cases hs
      refine ⟨⟨by simp only; omega, fun _ => by simp⟩, ?_⟩
      unfold stLines
      simp only
      rw [if_neg hk]
      by_cases h3 : k - 1 = 0
      · rw [if_pos h3]
        have : k = 1 := by omega
        subst this
        simp [progLines, procLines, insLine]
      · rw [if_neg h3]
        simp [insLine]
        omega
    | [], hs => cases hs
    | [a], hs => cases hs
    | [a, b], hs => cases hs
    | [a, b, c], hs => cases hs
theorem readL_ok : ∀ (ws : List Str) (st st' : List Proc × Int), StOk st → readL ws st = some st' → StOk st' ∧ ∃ ls : List (List Int), stLines st' = stLines st ++ ls ∧ ws = ls.map lineT ∧ ∀ l ∈ ls, ∀ x ∈ l, I64 x
  | [], st, st', h, hs => by
    cases hs
    exact ⟨h, [], by simp, rfl, by intro l hl; cases hl⟩
  | w :: ws, st, st', h, hs => by
    unfold readL at hs
    cases e : numsC 32 w with
    | none => rw [e] at hs; cases hs
    | some l =>
      rw [e, Option.bind_some] at hs
      cases e2 : stepL l st with
      | none => rw [e2] at hs; cases hs
      | some s2 =>
        rw [e2, Option.bind_some] at hs
        obtain ⟨g1, g2⟩ := stepL_ok h e2
        obtain ⟨g3, ls, g4, g5, g6⟩ := readL_ok ws s2 st' g1 hs
        obtain ⟨j1, j2, j3⟩ := join_nums e
        refine ⟨g3, l :: ls, by rw [g4, g2]; simp, by rw [g5, List.map_cons, ← show w = lineT l from j1], ?_⟩
        intro m hm
        rcases List.mem_cons.1 hm with rfl | hm
        · exact j2
        · exact g6 m hm
theorem readL_code : ∀ (cs : List Ins) (x : Proc) (q : List Proc) (rest : List Str), (∀ c ∈ cs, InsW c) → readL (cs.map (fun c => lineT (insLine c)) ++ rest) (q ++ [x], (cs.length : Int)) = readL rest (q ++ [⟨x.params, x.regs, x.code ++ cs⟩], 0)
  | [], x, q, rest, h => by simp
  | c :: cs, x, q, rest, h => by
    rw [List.map_cons, List.cons_append, readL]
    have e : numsC 32 (lineT (insLine c)) = some (insLine c) := nums_join (by decide) (insLine_ne c) (insLine_ok (h c (by simp)))
    rw [e, Option.bind_some, stepL_more c q x _ (by simp only [List.length_cons]; omega), Option.bind_some]
    have e2 : (((c :: cs).length : Int) - 1) = (cs.length : Int) := by simp only [List.length_cons]; omega
    rw [e2, readL_code cs _ q rest (fun y hy => h y (List.mem_cons_of_mem _ hy))]
    simp
def CodeLen (x : Proc) : Prop := 1 ≤ x.code.length ∧ x.code.length ≤ 2000
theorem readL_prog : ∀ (p q : List Proc), (∀ x ∈ p, ProcW x ∧ CodeLen x) → readL ((progLines p).map lineT) (q, 0) = some (q ++ p, 0)
  | [], q, h => by simp [progLines, readL]
  | x :: p, q, h => by
    obtain ⟨⟨w1, w2, w3⟩, c1, c2⟩ := h x (by simp)
    have e : (progLines (x :: p)).map lineT = lineT [x.params, x.regs, (x.code.length : Int)] :: (x.code.map (fun c => lineT (insLine c)) ++ (progLines p).map lineT) := by
      simp [progLines, procLines]
    rw [e, readL]
    have e1 : numsC 32 (lineT [x.params, x.regs, (x.code.length : Int)]) = some [x.params, x.regs, (x.code.length : Int)] := nums_join (by decide) (by simp) (by
      intro y hy
      simp only [List.mem_cons, List.not_mem_nil, or_false] at hy
      rcases hy with rfl | rfl | rfl
      · exact w1
      · exact w2
      · exact I64.mk (by omega) (by omega))
    rw [e1, Option.bind_some, stepL_zero _ _ _ _ (by omega), Option.bind_some, readL_code _ _ _ _ w3]
    have e3 : (⟨x.params, x.regs, [] ++ x.code⟩ : Proc) = x := by simp
    simp only at e3 ⊢
    rw [e3, readL_prog p (q ++ [x]) (fun y hy => h y (List.mem_cons_of_mem _ hy))]
    simp
/-! Lines. -/
theorem getLast_split {α : Type} {l : List α} {a : α} (h : l.getLast? = some a) : l = l.dropLast ++ [a] := by
  have hl : l ≠ [] := by rintro rfl; cases h
  rw [List.getLast?_eq_some_getLast hl] at h
  cases h
  exact (List.dropLast_concat_getLast hl).symm
theorem split_lines : ∀ (ls : List Str), (∀ x ∈ ls, (10 : UInt8) ∉ x) → splitC 10 ((ls.map fun x => x ++ [10]).flatten) = ls ++ [[]]
  | [], _ => rfl
  | x :: ls, h => by
    rw [List.map_cons, List.flatten_cons, List.append_assoc]
    show splitC 10 (x ++ 10 :: (ls.map fun x => x ++ [10]).flatten) = _
    rw [splitC_app (h x (by simp)), split_lines ls (fun y hy => h y (List.mem_cons_of_mem _ hy))]
    rfl
theorem join_lines : ∀ (ls : List Str), joinC 10 (ls ++ [[]]) = (ls.map fun x => x ++ [10]).flatten
  | [] => joinC_one _ _
  | [x] => by
    show joinC 10 [x, []] = _
    rw [joinC_cons, joinC_one]; simp
  | x :: y :: ls => by
    show joinC 10 (x :: y :: (ls ++ [[]])) = _
    rw [joinC_cons, show (y :: (ls ++ [[]])) = (y :: ls) ++ [[]] from rfl, join_lines (y :: ls)]
    simp
theorem lines_join {s : Str} {ls : List Str} (h : splitC 10 s = ls ++ [[]]) : s = (ls.map fun x => x ++ [10]).flatten := by
  rw [← join_splitC 10 s, h, join_lines]
theorem itoa_nc {n : Int} {c : UInt8} (h : c.toNat < 45) : c ∉ Lib.itoa n := itoa_free h
theorem joinC_free {c d : UInt8} (hcd : c ≠ d) : ∀ (l : List Str), (∀ x ∈ l, c ∉ x) → c ∉ joinC d l
  | [], _ => by unfold joinC; simp [Lib.join]
  | [x], h => by rw [joinC_one]; exact h x (by simp)
  | x :: y :: l, h => by
    rw [joinC_cons]
    simp only [List.mem_append, List.mem_cons, not_or]
    exact ⟨h x (by simp), hcd, joinC_free hcd (y :: l) (fun z hz => h z (List.mem_cons_of_mem _ hz))⟩
theorem lineT_free (l : List Int) : (10 : UInt8) ∉ lineT l := joinC_free (by decide) _ (by
  intro x hx
  obtain ⟨n, _, rfl⟩ := List.mem_map.1 hx
  exact itoa_free (by decide))
theorem linesT_eq (l : List (List Int)) : linesT l = ((l.map lineT).map fun x => x ++ [10]).flatten := by
  unfold linesT; rw [List.map_map]; rfl
theorem split_text (p : List Proc) : splitC 10 (progText p) = (progLines p).map lineT ++ [[]] := by
  unfold progText
  rw [linesT_eq, split_lines _ (by
    intro x hx
    obtain ⟨l, _, rfl⟩ := List.mem_map.1 hx
    exact lineT_free l)]
/-- What a text says. -/
def imgRead (s : Str) : Option (List Proc) :=
  match (splitC 10 s).getLast? with
  | some [] => match readL (splitC 10 s).dropLast ([], 0) with
    | some (p, k) => if k = 0 then some p else none
    | none => none
  | _ => none
theorem imgRead_text {p : List Proc} (h : ∀ x ∈ p, ProcW x ∧ CodeLen x) : imgRead (progText p) = some p := by
  unfold imgRead
  rw [split_text]
  simp only [List.getLast?_append, List.getLast?_singleton, Option.some_or, List.dropLast_concat]
  rw [readL_prog p [] h]
  simp
theorem procW_of_lines {p : List Proc} (h : ∀ l ∈ progLines p, ∀ x ∈ l, I64 x) : ∀ x ∈ p, ProcW x := by
  intro x hx
  have hl : ∀ l ∈ procLines x, ∀ y ∈ l, I64 y := fun l hl => h l (List.mem_flatMap.2 ⟨x, hx, hl⟩)
  have h0 := hl [x.params, x.regs, (x.code.length : Int)] (by simp [procLines])
  exact ⟨h0 _ (by simp), h0 _ (by simp), fun c hc => insLine_w (hl (insLine c) (by simp only [procLines, List.mem_cons, List.mem_map]; exact .inr ⟨c, hc, rfl⟩))⟩
theorem imgRead_some {s : Str} {p : List Proc} (h : imgRead s = some p) : s = progText p ∧ ∀ x ∈ p, ProcW x := by
  unfold imgRead at h
  split at h
  · rename_i hlast
    split at h
    · rename_i q k hr
      split at h
      · rename_i hk
        cases h
        subst hk
        obtain ⟨g1, ls, g2, g3, g4⟩ := readL_ok _ ([], 0) _ ⟨Int.le_refl _, fun h => absurd rfl h⟩ hr
        have e0 : stLines ([], 0) = [] := rfl
        rw [e0, List.nil_append] at g2
        have e1 : stLines (p, 0) = progLines p := rfl
        rw [e1] at g2
        subst g2
        have e2 : splitC 10 s = (splitC 10 s).dropLast ++ [[]] := getLast_split hlast
        refine ⟨?_, procW_of_lines g4⟩
        have := lines_join e2
        rw [g3] at this
        unfold progText
        rw [linesT_eq]
        exact this
      · cases h
    · cases h
  · cases h
end Go.LX

namespace Go.Proofs.YtckocfgmnlhcmaaDoor
open Go Go.Proofs Go.LX
theorem eqInt (a b : List Int) : slices_Equal_int a b = some (decide (a = b)) := by
  unfold slices_Equal_int
  by_cases h : a.length = b.length
  · rw [dF (by omega)]
    simp only [cond_false, Int.toNat_natCast]
    rw [upto_all2 (fun x y => decide (x = y)) a b h rfl (fun i x y nx h1 h2 => by
      unfold slices_Equal_int_b3
      rw [idx_nat, idx_nat, h1, h2]
      by_cases e : x = y <;> simp [e]), all2_eq (fun _ _ => rfl)]
  · rw [dT (by omega)]
    have : a ≠ b := fun e => h (by rw [e])
    rw [dF this]; rfl
theorem eachI_all2g {α β : Type} {body : Int → α → Unit → (Unit → Option Bool) → Option Bool} {kk : Unit → Option Bool} (p : α → β → Bool) (a : List α) (b : List β) (hl : a.length = b.length)
    (hb : ∀ (i : Nat) x y nx, b[i]? = some y → body (i : Int) x () nx = bif p x y then nx () else some false) : eachI body kk 0 a () = bif all2 p a b then kk () else some false := by
  have key : ∀ (l : List α) (i : Nat), i + l.length = b.length → eachI body kk (i : Int) l () = bif all2 p l (b.drop i) then kk () else some false := by
    intro l
    induction l with
    | nil =>
      intro i h
      rw [List.drop_eq_nil_of_le (by simp at h; omega)]
      rfl
    | cons x l ih =>
      intro i h
      have h2 : i < b.length := by simp at h; omega
      rw [List.drop_eq_getElem_cons h2]
      show body (i : Int) x () (eachI body kk ((i : Int) + 1) l) = _
      rw [hb i x b[i] _ (List.getElem?_eq_getElem h2)]
      cases hp : p x b[i] with
      | true => simp only [cond_true, all2, hp, Bool.true_and]; exact ih (i + 1) (by simp at h; omega)
      | false => simp [all2, hp]
  have := key a 0 (by omega)
  simpa using this
theorem code_same (a b : List Proc) : code_Same a b = some (decide (a = b)) := by
  unfold code_Same
  by_cases h : a.length = b.length
  · rw [dF (by omega)]
    simp only [cond_false]
    rw [eachI_all2g (fun x y => decide (x = y)) a b h (fun i x y nx h2 => by
      obtain ⟨xp, xr, xc⟩ := x
      obtain ⟨yp, yr, yc⟩ := y
      unfold code_Same_b791
      rw [idx_nat, h2, Option.bind_some]
      simp only
      by_cases e1 : xp = yp
      · by_cases e2 : xr = yr
        · subst e1 e2
          simp only [decide_true, Bool.and_self, cond_true]
          by_cases e3 : xc.length = yc.length
          · rw [dF (by omega)]
            simp only [cond_false]
            rw [eachI_all2g (fun x y => decide (x = y)) xc yc e3 (fun i x y nx h2 => by
              obtain ⟨xo, xa, xb, xd, xl⟩ := x
              obtain ⟨yo, ya, yb, yd, yl⟩ := y
              unfold code_Same_b789
              rw [idx_nat, h2, Option.bind_some]
              simp only [eqInt, Option.bind_some, code_Same_j788, code_Same_j766, Ins.mk.injEq]
              by_cases e4 : xo = yo <;> by_cases e5 : xa = ya <;> by_cases e6 : xb = yb <;> by_cases e7 : xd = yd <;> by_cases e8 : xl = yl <;> simp [e4, e5, e6, e7, e8]), all2_eq (fun _ _ => rfl)]
            simp [code_Same_k790, code_Same_j766]
          · rw [dT (by omega)]
            have : xc ≠ yc := fun e => e3 (by rw [e])
            simp [this, code_Same_j766]
        · simp [e2, code_Same_j766]
      · simp [e1, code_Same_j766]), all2_eq (fun _ _ => rfl)]
    unfold code_Same_k792
    by_cases e : a = b <;> simp [e]
  · rw [dT (by omega)]
    have : a ≠ b := fun e => h (by rw [e])
    rw [dF this]; rfl
theorem ref_same (a b : List Proc) : wandererref_SameCode a b = some (decide (a = b)) := by rw [← code_same]; rfl
theorem belowL (a b : Int) : (decide (0 ≤ a) && decide (a < b)) = wandererref_below a b := rfl
theorem inL (a b c : Int) : (decide (b ≤ a) && decide (a ≤ c)) = wandererref_in a b c := rfl
theorem fitsL (a : Int) : wandererref_fits a = wandererref_in a (-1000000000) 1000000000 := rfl
theorem notBelow (a b : Int) : (decide (a < 0) || decide (b ≤ a)) = !wandererref_below a b := by
  unfold wandererref_below; rw [Bool.eq_iff_iff]; simp; try omega
theorem below4 (a : Int) : wandererref_below a 4 = wandererref_in a 0 3 := by
  unfold wandererref_below wandererref_in; rw [Bool.eq_iff_iff]; simp; omega
theorem idx0 {α : Type} (x : α) (l : List α) : idx (x :: l) 0 = some x := by simp [idx]
theorem idx1' {α : Type} (x y : α) (l : List α) : idx (x :: y :: l) 1 = some y := by simp [idx]
theorem idx2 {α : Type} (x y z : α) (l : List α) : idx (x :: y :: z :: l) 2 = some z := by simp [idx]
theorem args_each (op a b c : Int) (x : Proc) (n : Int) (hn : n = x.regs) (full : List Int) (h : op = 7) : ∀ l : List Int, each (code_check_b8 n) code_check_k9 l () = each (wandererref_checkIns_b10 ⟨op, a, b, c, full⟩ x) wandererref_checkIns_k11 l ()
  | [] => rfl
  | y :: l => by
    subst hn h
    have e1 : each (code_check_b8 x.regs) code_check_k9 (y :: l) () = bif (!wandererref_below y x.regs) then some 3 else each (code_check_b8 x.regs) code_check_k9 l () := rfl
    have e2 : each (wandererref_checkIns_b10 ⟨7, a, b, c, full⟩ x) wandererref_checkIns_k11 (y :: l) () = bif (!wandererref_below y x.regs) then some 3 else each (wandererref_checkIns_b10 ⟨7, a, b, c, full⟩ x) wandererref_checkIns_k11 l () := rfl
    rw [e1, e2, args_each 7 a b c x x.regs rfl full rfl l]
theorem args_none (c : Ins) (x : Proc) (h : c.op ≠ 7) : ∀ l : List Int, each (wandererref_checkIns_b10 c x) wandererref_checkIns_k11 l () = some 0
  | [] => rfl
  | y :: l => by
    have e2 : each (wandererref_checkIns_b10 c x) wandererref_checkIns_k11 (y :: l) () = bif (decide (c.op = 7) && !wandererref_below y x.regs) then some 3 else each (wandererref_checkIns_b10 c x) wandererref_checkIns_k11 l () := rfl
    rw [e2, dF h, Bool.false_and]
    exact args_none c x h l
theorem len_one {l : List Int} : l.length = 1 ↔ ∃ x, l = [x] := by
  match l with
  | [] => simp
  | [x] => simp
  | x :: y :: r => simp
set_option maxHeartbeats 2000000 in
theorem ins_eq (c : Ins) (i : Int) (x : Proc) (ps : List Proc) : code_check c i ps x.regs (x.code.length : Int) = wandererref_checkIns c x ps := by
  obtain ⟨op, a, b, c, args⟩ := c
  by_cases h1 : op = 1
  · subst h1
    simp [code_check, code_uses, code_uses_j4, code_uses_j5, code_uses_j6, code_check_1_, code_check_j4, code_check_j5, code_check_j10, code_check_j11, code_check_j12, wandererref_checkIns, wandererref_checkIns_b16, wandererref_checkIns_k17, wandererref_checkIns_j5, wandererref_checkIns_b12, wandererref_checkIns_k13, wandererref_checkIns_j14, wandererref_checkIns_j15, lk, eachI, idx0, idx1', idx2, belowL, inL, notBelow, fitsL, below4]
    cases ha : wandererref_below a x.regs <;> cases hf : wandererref_in b (-1000000000) 1000000000 <;> by_cases zc : c = 0 <;> by_cases zargs : args = [] <;> simp_all [each, wandererref_checkIns_k11]
  by_cases h2 : op = 2
  · subst h2
    simp [code_check, code_uses, code_uses_j4, code_uses_j5, code_uses_j6, code_check_1_, code_check_j4, code_check_j5, code_check_j10, code_check_j11, code_check_j12, wandererref_checkIns, wandererref_checkIns_b16, wandererref_checkIns_k17, wandererref_checkIns_j5, wandererref_checkIns_b12, wandererref_checkIns_k13, wandererref_checkIns_j14, wandererref_checkIns_j15, lk, eachI, idx0, idx1', idx2, belowL, inL, notBelow, fitsL, below4]
    cases ha : wandererref_below a x.regs <;> cases hb : wandererref_below b x.regs <;> by_cases zc : c = 0 <;> by_cases zargs : args = [] <;> simp_all [each, wandererref_checkIns_k11]
  by_cases h3 : op = 3
  · subst h3
    simp [code_check, code_uses, code_uses_j4, code_uses_j5, code_uses_j6, code_check_1_, code_check_j4, code_check_j5, code_check_j10, code_check_j11, code_check_j12, wandererref_checkIns, wandererref_checkIns_b16, wandererref_checkIns_k17, wandererref_checkIns_j5, wandererref_checkIns_b12, wandererref_checkIns_k13, wandererref_checkIns_j14, wandererref_checkIns_j15, lk, eachI, idx0, idx1', idx2, belowL, inL, notBelow, fitsL, below4]
    cases ha : wandererref_below a x.regs <;> cases hb : wandererref_below b x.regs <;> cases hc : wandererref_below c x.regs <;> simp_all [each, wandererref_checkIns_k11]
    by_cases e : args.length = 1
    · obtain ⟨y, rfl⟩ := len_one.1 e
      cases hy : wandererref_in y 1 5 <;> simp_all [code_check, code_uses, code_uses_j4, code_uses_j5, code_uses_j6, code_check_1_, code_check_j4, code_check_j5, code_check_j10, code_check_j11, code_check_j12, wandererref_checkIns, wandererref_checkIns_b16, wandererref_checkIns_k17, wandererref_checkIns_j5, wandererref_checkIns_b12, wandererref_checkIns_k13, wandererref_checkIns_j14, wandererref_checkIns_j15, lk, eachI, idx0, idx1', idx2, belowL, inL, notBelow, fitsL, below4, each, wandererref_checkIns_b10, wandererref_checkIns_k11]
    · rw [dF (show ¬ ((args.length : Int) = 1) by omega)]; rfl
  by_cases h4 : op = 4
  · subst h4
    simp [code_check, code_uses, code_uses_j4, code_uses_j5, code_uses_j6, code_check_1_, code_check_j4, code_check_j5, code_check_j10, code_check_j11, code_check_j12, wandererref_checkIns, wandererref_checkIns_b16, wandererref_checkIns_k17, wandererref_checkIns_j5, wandererref_checkIns_b12, wandererref_checkIns_k13, wandererref_checkIns_j14, wandererref_checkIns_j15, lk, eachI, idx0, idx1', idx2, belowL, inL, notBelow, fitsL, below4]
    cases ha : wandererref_below a x.regs <;> cases hb : wandererref_below b x.regs <;> cases hf : wandererref_in c 0 3 <;> by_cases zargs : args = [] <;> simp_all [each, wandererref_checkIns_k11]
  by_cases h5 : op = 5
  · subst h5
    simp [code_check, code_uses, code_uses_j4, code_uses_j5, code_uses_j6, code_check_1_, code_check_j4, code_check_j5, code_check_j10, code_check_j11, code_check_j12, wandererref_checkIns, wandererref_checkIns_b16, wandererref_checkIns_k17, wandererref_checkIns_j5, wandererref_checkIns_b12, wandererref_checkIns_k13, wandererref_checkIns_j14, wandererref_checkIns_j15, lk, eachI, idx0, idx1', idx2, belowL, inL, notBelow, fitsL, below4]
    cases ha : wandererref_below a x.regs <;> cases hf : wandererref_in b 1 4 <;> by_cases zc : c = 0 <;> by_cases zargs : args = [] <;> simp_all [each, wandererref_checkIns_k11]
  by_cases h6 : op = 6
  · subst h6
    simp [code_check, code_uses, code_uses_j4, code_uses_j5, code_uses_j6, code_check_1_, code_check_j4, code_check_j5, code_check_j10, code_check_j11, code_check_j12, wandererref_checkIns, wandererref_checkIns_b16, wandererref_checkIns_k17, wandererref_checkIns_j5, wandererref_checkIns_b12, wandererref_checkIns_k13, wandererref_checkIns_j14, wandererref_checkIns_j15, lk, eachI, idx0, idx1', idx2, belowL, inL, notBelow, fitsL, below4]
    cases ha : wandererref_below a x.regs <;> cases hb : wandererref_below b x.regs <;> by_cases zc : c = 0 <;> by_cases zargs : args = [] <;> simp_all [each, wandererref_checkIns_k11]
  by_cases h7 : op = 7
  · subst h7
    simp [code_check, code_uses, code_uses_j4, code_uses_j5, code_uses_j6, code_check_1_, code_check_j4, code_check_j5, code_check_j10, code_check_j11, code_check_j12, wandererref_checkIns, wandererref_checkIns_b16, wandererref_checkIns_k17, wandererref_checkIns_j5, wandererref_checkIns_b12, wandererref_checkIns_k13, wandererref_checkIns_j14, wandererref_checkIns_j15, lk, eachI, idx0, idx1', idx2, belowL, inL, notBelow, fitsL, below4]
    cases ha : wandererref_below a x.regs <;> cases hf : wandererref_below b (ps.length : Int) <;> simp_all [each, wandererref_checkIns_k11]
    cases hp : idx ps b with
    | none => rfl
    | some y =>
      by_cases zc : c = 0 <;> by_cases za : (args.length : Int) = y.params <;> simp_all
      exact args_each 7 a b 0 x x.regs rfl args rfl args
  by_cases h8 : op = 8
  · subst h8
    simp [code_check, code_uses, code_uses_j4, code_uses_j5, code_uses_j6, code_check_1_, code_check_j4, code_check_j5, code_check_j10, code_check_j11, code_check_j12, wandererref_checkIns, wandererref_checkIns_b16, wandererref_checkIns_k17, wandererref_checkIns_j5, wandererref_checkIns_b12, wandererref_checkIns_k13, wandererref_checkIns_j14, wandererref_checkIns_j15, lk, eachI, idx0, idx1', idx2, belowL, inL, notBelow, fitsL, below4]
    cases ha : wandererref_below a x.regs <;> by_cases zb : b = 0 <;> by_cases zc : c = 0 <;> by_cases zargs : args = [] <;> simp_all [each, wandererref_checkIns_k11]
  by_cases h9 : op = 9
  · subst h9
    simp [code_check, code_uses, code_uses_j4, code_uses_j5, code_uses_j6, code_check_1_, code_check_j4, code_check_j5, code_check_j10, code_check_j11, code_check_j12, wandererref_checkIns, wandererref_checkIns_b16, wandererref_checkIns_k17, wandererref_checkIns_j5, wandererref_checkIns_b12, wandererref_checkIns_k13, wandererref_checkIns_j14, wandererref_checkIns_j15, lk, eachI, idx0, idx1', idx2, belowL, inL, notBelow, fitsL, below4]
    cases ha : wandererref_below a x.regs <;> by_cases zb : b = 0 <;> by_cases zc : c = 0 <;> by_cases zargs : args = [] <;> simp_all [each, wandererref_checkIns_k11]
  by_cases h10 : op = 10
  · subst h10
    simp [code_check, code_uses, code_uses_j4, code_uses_j5, code_uses_j6, code_check_1_, code_check_j4, code_check_j5, code_check_j10, code_check_j11, code_check_j12, wandererref_checkIns, wandererref_checkIns_b16, wandererref_checkIns_k17, wandererref_checkIns_j5, wandererref_checkIns_b12, wandererref_checkIns_k13, wandererref_checkIns_j14, wandererref_checkIns_j15, lk, eachI, idx0, idx1', idx2, belowL, inL, notBelow, fitsL, below4]
    by_cases za : a = 0 <;> by_cases zb : b = 0 <;> by_cases zc : c = 0 <;> by_cases zargs : args = [] <;> simp_all [each, wandererref_checkIns_k11]
  by_cases h11 : op = 11
  · subst h11
    simp [code_check, code_uses, code_uses_j4, code_uses_j5, code_uses_j6, code_check_1_, code_check_j4, code_check_j5, code_check_j10, code_check_j11, code_check_j12, wandererref_checkIns, wandererref_checkIns_b16, wandererref_checkIns_k17, wandererref_checkIns_j5, wandererref_checkIns_b12, wandererref_checkIns_k13, wandererref_checkIns_j14, wandererref_checkIns_j15, lk, eachI, idx0, idx1', idx2, belowL, inL, notBelow, fitsL, below4]
    cases ha : wandererref_below a x.regs <;> by_cases zb : b = 0 <;> by_cases zc : c = 0 <;> by_cases zargs : args = [] <;> simp_all [each, wandererref_checkIns_k11]
  by_cases h12 : op = 12
  · subst h12
    simp [code_check, code_uses, code_uses_j4, code_uses_j5, code_uses_j6, code_check_1_, code_check_j4, code_check_j5, code_check_j10, code_check_j11, code_check_j12, wandererref_checkIns, wandererref_checkIns_b16, wandererref_checkIns_k17, wandererref_checkIns_j5, wandererref_checkIns_b12, wandererref_checkIns_k13, wandererref_checkIns_j14, wandererref_checkIns_j15, lk, eachI, idx0, idx1', idx2, belowL, inL, notBelow, fitsL, below4]
    by_cases za : a = 0 <;> cases hf : wandererref_below b (x.code.length : Int) <;> by_cases zc : c = 0 <;> by_cases zargs : args = [] <;> simp_all [each, wandererref_checkIns_k11]
  by_cases h13 : op = 13
  · subst h13
    simp [code_check, code_uses, code_uses_j4, code_uses_j5, code_uses_j6, code_check_1_, code_check_j4, code_check_j5, code_check_j10, code_check_j11, code_check_j12, wandererref_checkIns, wandererref_checkIns_b16, wandererref_checkIns_k17, wandererref_checkIns_j5, wandererref_checkIns_b12, wandererref_checkIns_k13, wandererref_checkIns_j14, wandererref_checkIns_j15, lk, eachI, idx0, idx1', idx2, belowL, inL, notBelow, fitsL, below4]
    cases ha : wandererref_below a x.regs <;> cases hf : wandererref_below b (x.code.length : Int) <;> by_cases zc : c = 0 <;> by_cases zargs : args = [] <;> simp_all [each, wandererref_checkIns_k11]
  · simp [code_check, code_uses, code_uses_j4, code_uses_j5, code_uses_j6, wandererref_checkIns, lk, *]

/-- What the checked program's first look says of each procedure. -/
def headOk (i : Nat) (x : Proc) : Int :=
  if (0 ≤ x.params ∧ x.params ≤ 3) ∧ (1 ≤ x.regs ∧ x.params ≤ x.regs ∧ x.regs ≤ 40) ∧ ¬ (i = 0 ∧ x.params ≠ 0) then (if 1 ≤ x.code.length ∧ x.code.length ≤ 2000 then 0 else 2) else 3
theorem b39_eq (i : Nat) (x : Proc) (nx : Unit → Option Int) : code_Check_b39 (i : Int) x () nx = if headOk i x ≠ 0 then some (headOk i x) else nx () := by
  unfold code_Check_b39 headOk
  by_cases h1 : (0 ≤ x.params ∧ x.params ≤ 3) ∧ (1 ≤ x.regs ∧ x.params ≤ x.regs ∧ x.regs ≤ 40) ∧ ¬ (i = 0 ∧ x.params ≠ 0)
  · have e : (((((decide ((x.params : Int) < 0) || decide ((3 : Int) < x.params)) || decide ((x.regs : Int) < 1)) || decide ((x.regs : Int) < x.params)) || decide ((40 : Int) < x.regs)) || (decide ((i : Int) = 0) && decide ((0 : Int) < x.params))) = false := by
      simp only [Bool.or_eq_false_iff, Bool.and_eq_false_iff, decide_eq_false_iff_not]; omega
    rw [e, if_pos h1]
    simp only [cond_false]
    by_cases h2 : 1 ≤ x.code.length ∧ x.code.length ≤ 2000
    · rw [if_pos h2, show (decide (((x.code.length : Int) : Int) = 0) || decide ((2000 : Int) < (x.code.length : Int))) = false by simp only [Bool.or_eq_false_iff, decide_eq_false_iff_not]; omega]
      rfl
    · rw [if_neg h2, show (decide (((x.code.length : Int) : Int) = 0) || decide ((2000 : Int) < (x.code.length : Int))) = true by simp only [Bool.or_eq_true, decide_eq_true_eq]; omega]
      rfl
  · have e : (((((decide ((x.params : Int) < 0) || decide ((3 : Int) < x.params)) || decide ((x.regs : Int) < 1)) || decide ((x.regs : Int) < x.params)) || decide ((40 : Int) < x.regs)) || (decide ((i : Int) = 0) && decide ((0 : Int) < x.params))) = true := by
      simp only [Bool.or_eq_true, Bool.and_eq_true, decide_eq_true_eq]; omega
    rw [e, if_neg h1]
    rfl
theorem r39_eq (i : Nat) (x : Proc) (nx : Unit → Option Int) : wandererref_CheckCode_b39 (i : Int) x () nx = if headOk i x ≠ 0 then some (headOk i x) else nx () := by
  unfold wandererref_CheckCode_b39 headOk wandererref_in
  by_cases h1 : (0 ≤ x.params ∧ x.params ≤ 3) ∧ (1 ≤ x.regs ∧ x.params ≤ x.regs ∧ x.regs ≤ 40) ∧ ¬ (i = 0 ∧ x.params ≠ 0)
  · have e : (((!(decide ((0 : Int) ≤ x.params) && decide (x.params ≤ (3 : Int)))) || (!(decide (max 1 x.params ≤ x.regs) && decide (x.regs ≤ (40 : Int))))) || (decide ((i : Int) = 0) && decide ((x.params : Int) ≠ 0))) = false := by
      simp only [Bool.or_eq_false_iff, Bool.and_eq_false_iff, Bool.not_eq_false', Bool.and_eq_true, decide_eq_true_eq, decide_eq_false_iff_not]; omega
    rw [e, if_pos h1]
    simp only [cond_false]
    by_cases h2 : 1 ≤ x.code.length ∧ x.code.length ≤ 2000
    · rw [if_pos h2, show (!(decide ((1 : Int) ≤ (x.code.length : Int)) && decide ((x.code.length : Int) ≤ (2000 : Int)))) = false by simp only [Bool.not_eq_false', Bool.and_eq_true, decide_eq_true_eq]; omega]
      rfl
    · rw [if_neg h2, show (!(decide ((1 : Int) ≤ (x.code.length : Int)) && decide ((x.code.length : Int) ≤ (2000 : Int)))) = true by simp only [Bool.not_eq_true', Bool.and_eq_false_iff, decide_eq_false_iff_not]; omega]
      rfl
  · have e : (((!(decide ((0 : Int) ≤ x.params) && decide (x.params ≤ (3 : Int)))) || (!(decide (max 1 x.params ≤ x.regs) && decide (x.regs ≤ (40 : Int))))) || (decide ((i : Int) = 0) && decide ((x.params : Int) ≠ 0))) = true := by
      simp only [Bool.or_eq_true, Bool.and_eq_true, Bool.not_eq_true', Bool.and_eq_false_iff, decide_eq_true_eq, decide_eq_false_iff_not]; omega
    rw [e, if_neg h1]
    rfl
def heads : Nat → List Proc → Int
  | _, [] => 0
  | i, x :: p => if headOk i x ≠ 0 then headOk i x else heads (i + 1) p
theorem heads_eq (k : Unit → Option Int) : ∀ (p : List Proc) (i : Nat), eachI code_Check_b39 k (i : Int) p () = if heads i p ≠ 0 then some (heads i p) else k ()
  | [], i => by simp [heads, eachI]
  | x :: p, i => by
    show code_Check_b39 (i : Int) x () (eachI code_Check_b39 k ((i : Int) + 1) p) = _
    rw [b39_eq, show ((i : Int) + 1) = ((i + 1 : Nat) : Int) by omega, heads_eq k p (i + 1), heads]
    by_cases h : headOk i x = 0 <;> simp [h]
theorem heads_eq2 (k : Unit → Option Int) : ∀ (p : List Proc) (i : Nat), eachI wandererref_CheckCode_b39 k (i : Int) p () = if heads i p ≠ 0 then some (heads i p) else k ()
  | [], i => by simp [heads, eachI]
  | x :: p, i => by
    show wandererref_CheckCode_b39 (i : Int) x () (eachI wandererref_CheckCode_b39 k ((i : Int) + 1) p) = _
    rw [r39_eq, show ((i : Int) + 1) = ((i + 1 : Nat) : Int) by omega, heads_eq2 k p (i + 1), heads]
    by_cases h : headOk i x = 0 <;> simp [h]
theorem b35_eq (a : List Proc) (x : Proc) (i : Int) (c : Ins) (nx : Unit → Option Int) : code_Check_b35 a x i c () nx = wandererref_CheckCode_b35 x a c () nx := by
  unfold code_Check_b35 wandererref_CheckCode_b35
  rw [ins_eq]
theorem check_loop (a : List Proc) (x : Proc) (k : Unit → Option Int) : ∀ (l : List Ins) (i : Int), eachI (code_Check_b35 a x) k i l () = each (wandererref_CheckCode_b35 x a) k l ()
  | [], i => rfl
  | c :: l, i => by
    have ih : eachI (code_Check_b35 a x) k (i + 1) l = each (wandererref_CheckCode_b35 x a) k l := by funext u; exact check_loop a x k l (i + 1)
    have e1 : eachI (code_Check_b35 a x) k i (c :: l) () = code_Check_b35 a x i c () (eachI (code_Check_b35 a x) k (i + 1) l) := rfl
    have e2 : each (wandererref_CheckCode_b35 x a) k (c :: l) () = wandererref_CheckCode_b35 x a c () (each (wandererref_CheckCode_b35 x a) k l) := rfl
    rw [e1, e2, b35_eq, ih]
theorem b37_eq (a : List Proc) (x : Proc) (nx : Unit → Option Int) : code_Check_b37 a x () nx = wandererref_CheckCode_b37 a x () nx := by
  unfold code_Check_b37 wandererref_CheckCode_b37
  rw [check_loop]
  rfl
theorem check_eq (a : List Proc) : code_Check a = wandererref_CheckCode a := by
  unfold code_Check wandererref_CheckCode
  have e : (decide (((a.length : Int) : Int) = 0) || decide ((4 : Int) < (a.length : Int))) = !(wandererref_in (a.length : Int) 1 4) := by
    unfold wandererref_in; rw [Bool.eq_iff_iff]; simp only [Bool.or_eq_true, Bool.not_eq_true', Bool.and_eq_false_iff, decide_eq_true_eq, decide_eq_false_iff_not]; omega
  rw [e]
  have k1 : ∀ l : List Proc, each (code_Check_b37 a) code_Check_k38 l () = each (wandererref_CheckCode_b37 a) wandererref_CheckCode_k38 l () := by
    intro l
    induction l with
    | nil => rfl
    | cons x l ih =>
      have e1 : each (code_Check_b37 a) code_Check_k38 (x :: l) () = code_Check_b37 a x () (each (code_Check_b37 a) code_Check_k38 l) := rfl
      have e2 : each (wandererref_CheckCode_b37 a) wandererref_CheckCode_k38 (x :: l) () = wandererref_CheckCode_b37 a x () (each (wandererref_CheckCode_b37 a) wandererref_CheckCode_k38 l) := rfl
      have : (each (code_Check_b37 a) code_Check_k38 l) = (each (wandererref_CheckCode_b37 a) wandererref_CheckCode_k38 l) := by funext u; exact ih
      rw [e1, e2, b37_eq, this]
  have h1 := heads_eq (code_Check_k40 a) a 0
  have h2 := heads_eq2 (wandererref_CheckCode_k40 a) a 0
  have h1' : eachI code_Check_b39 (code_Check_k40 a) 0 a () = _ := h1
  have h2' : eachI wandererref_CheckCode_b39 (wandererref_CheckCode_k40 a) 0 a () = _ := h2
  have k2 : code_Check_k40 a () = wandererref_CheckCode_k40 a () := k1 a
  rw [h1', h2', k2]
end Go.Proofs.YtckocfgmnlhcmaaDoor

namespace Go.Proofs.YtckocfgmnlhcmaaDoor
open Go Go.Proofs Go.LX
theorem each_cons {α σ ρ : Type} {body : α → σ → (σ → ρ) → ρ} {k : σ → ρ} (x : α) (l : List α) (s : σ) : each body k (x :: l) s = body x s (each body k l) := rfl
theorem each_nil {α σ ρ : Type} {body : α → σ → (σ → ρ) → ρ} {k : σ → ρ} (s : σ) : each body k [] s = k s := rfl
theorem b8_tot (d : Int) : ∀ l : List Int, ∃ y, each (code_check_b8 d) code_check_k9 l () = some y
  | [] => ⟨0, rfl⟩
  | x :: l => by
    obtain ⟨y, hy⟩ := b8_tot d l
    rw [each_cons]
    unfold code_check_b8
    cases (!(decide ((0 : Int) ≤ x) && decide ((x : Int) < d))) with
    | true => exact ⟨3, rfl⟩
    | false => exact ⟨y, hy⟩
theorem j5_tot (x9 : Bool) (a : Ins) (b y12 : Int) (c : List Proc) (y13 x10 d y14 : Int) : ∃ y, code_check_j5 x9 a b y12 c y13 x10 d y14 = some y ∧ (y = 0 → (a.args.length : Int) = x10) := by
  unfold code_check_j5
  cases x9 with
  | false => exact ⟨3, rfl, fun h => absurd h (by decide)⟩
  | true =>
    simp only [Bool.not_true, cond_false]
    generalize hc : (((decide ((a.a : Int) ≠ y14) || decide ((a.b : Int) ≠ y12)) || decide ((a.c : Int) ≠ y13)) || decide (((a.args.length : Int) : Int) ≠ x10)) = C
    cases C with
    | true => exact ⟨4, rfl, fun h => absurd h (by decide)⟩
    | false =>
      simp only [Bool.or_eq_false_iff, decide_eq_false_iff_not, Decidable.not_not] at hc
      simp only [cond_false]
      cases decide ((a.op : Int) = 7) with
      | true => obtain ⟨y, hy⟩ := b8_tot d a.args; exact ⟨y, hy, fun _ => hc.2⟩
      | false => exact ⟨0, rfl, fun _ => hc.2⟩
theorem j4_tot (a : Ins) (b : Int) (c : List Proc) (d : Int) (x9 : Bool) (x10 y11 y12 y13 : Int) : ∃ y, code_check_j4 a b c d x9 x10 y11 y12 y13 = some y ∧ (y = 0 → (a.args.length : Int) = x10) := by
  unfold code_check_j4
  cases decide ((a.op : Int) = 12) with
  | true => exact j5_tot x9 a b y12 c y13 x10 d 0
  | false => exact j5_tot x9 a b y12 c y13 x10 d y11
def InsT (a : Ins) (r : Option Int) : Prop := ∃ y, r = some y ∧ (y = 0 → a.args.length ≤ 3)
theorem j4_t (a : Ins) (b : Int) (c : List Proc) (d : Int) (x9 : Bool) {x10 : Int} (y11 y12 y13 : Int) (h : x10 ≤ 3) : InsT a (code_check_j4 a b c d x9 x10 y11 y12 y13) := by
  obtain ⟨y, h1, h2⟩ := j4_tot a b c d x9 x10 y11 y12 y13
  exact ⟨y, h1, fun h0 => by have := h2 h0; omega⟩
theorem insT_bif {a : Ins} {c : Bool} {x y : Option Int} (h1 : InsT a x) (h2 : InsT a y) : InsT a (bif c then x else y) := by
  cases c
  · exact h2
  · exact h1
theorem insT_err {a : Ins} {e : Int} (h : e ≠ 0) : InsT a (some e) := ⟨e, rfl, fun h0 => absurd h0 h⟩
theorem check_ins (a : Ins) (b : Int) (c : List Proc) (d e : Int) (hp : ∀ x ∈ c, x.params ≤ 3) : InsT a (code_check a b c d e) := by
  unfold code_check
  refine insT_bif (insT_err (by decide)) (insT_bif (insT_err (by decide)) (insT_bif (j4_t _ _ _ _ _ _ _ _ (by decide)) (insT_bif (j4_t _ _ _ _ _ _ _ _ (by decide)) ?_)))
  have k12 : ∀ x, InsT a (code_check_j12 a b c d x) := fun x => by
    unfold code_check_j12
    exact insT_bif (j4_t _ _ _ _ _ _ _ _ (by decide)) (insT_bif (j4_t _ _ _ _ _ _ _ _ (by decide)) (j4_t _ _ _ _ _ _ _ _ (by decide)))
  have k11 : ∀ x, InsT a (code_check_j11 a b c d e x) := fun x => by
    unfold code_check_j11
    refine insT_bif (j4_t _ _ _ _ _ _ _ _ (by decide)) ?_
    cases decide ((a.op : Int) = 7) with
    | false =>
      rw [cond_false]
      exact insT_bif (k12 _) (insT_bif (k12 _) (k12 _))
    | true =>
      simp only [cond_true]
      rw [notBelow]
      cases hb : wandererref_below a.b (c.length : Int) with
      | false => exact insT_err (by decide)
      | true =>
        simp only [Bool.not_true, cond_false]
        unfold wandererref_below at hb
        simp only [Bool.and_eq_true, decide_eq_true_eq] at hb
        obtain ⟨n, hn⟩ := Int.eq_ofNat_of_zero_le hb.1
        rw [hn, idx_lt (by omega), Option.bind_some]
        exact j4_t _ _ _ _ _ _ _ _ (hp _ (List.getElem_mem _))
  have k10 : ∀ x, InsT a (code_check_j10 a b c d e x) := fun x => by
    unfold code_check_j10
    refine insT_bif (j4_t _ _ _ _ _ _ _ _ (by decide)) ?_
    cases decide ((a.op : Int) = 3) with
    | false =>
      rw [cond_false]
      exact insT_bif (k11 _) (k11 _)
    | true =>
      simp only [cond_true]
      by_cases h1 : a.args.length = 1
      · rw [dT (show ((a.args.length : Int) : Int) = 1 by omega)]
        obtain ⟨y, hy⟩ := len_one.1 h1
        simp only [cond_true]
        rw [show idx a.args 0 = some y by rw [hy, idx0], Option.bind_some]
        exact j4_t _ _ _ _ _ _ _ _ (by decide)
      · rw [dF (show ¬ ((a.args.length : Int) : Int) = 1 by omega)]
        exact j4_t _ _ _ _ _ _ _ _ (by decide)
  exact insT_bif (k10 _) (k10 _)
/-- What a checked program is like. -/
def Good (a : List Proc) : Prop := a.length ≤ 4 ∧ ∀ x ∈ a, CodeLen x ∧ ∀ c ∈ x.code, c.args.length ≤ 3
theorem headOk_zero {i : Nat} {x : Proc} (h : headOk i x = 0) : x.params ≤ 3 ∧ CodeLen x := by
  unfold headOk at h
  split at h
  · split at h
    · exact ⟨by omega, by unfold CodeLen; omega⟩
    · cases h
  · cases h
theorem heads_zero : ∀ (p : List Proc) (i : Nat), heads i p = 0 → ∀ x ∈ p, x.params ≤ 3 ∧ CodeLen x
  | [], _, _, x, hx => by cases hx
  | y :: p, i, h, x, hx => by
    unfold heads at h
    split at h
    · rename_i h1; exact absurd h h1
    · rename_i h1
      rcases List.mem_cons.1 hx with rfl | hx
      · exact headOk_zero (Decidable.not_not.1 h1)
      · exact heads_zero p (i + 1) h x hx
theorem b35_tot (a : List Proc) (x : Proc) (k : Unit → Option Int) (hp : ∀ x ∈ a, x.params ≤ 3) (Q : Prop) (hk : ∃ y, k () = some y ∧ (y = 0 → Q)) : ∀ (l : List Ins) (i : Int), ∃ y, eachI (code_Check_b35 a x) k i l () = some y ∧ (y = 0 → Q ∧ ∀ c ∈ l, c.args.length ≤ 3)
  | [], i => by
    obtain ⟨y, h1, h2⟩ := hk
    exact ⟨y, h1, fun h => ⟨h2 h, by intro c hc; cases hc⟩⟩
  | c :: l, i => by
    obtain ⟨y, h1, h2⟩ := b35_tot a x k hp Q hk l (i + 1)
    have e1 : eachI (code_Check_b35 a x) k i (c :: l) () = code_Check_b35 a x i c () (eachI (code_Check_b35 a x) k (i + 1) l) := rfl
    rw [e1]
    unfold code_Check_b35
    obtain ⟨z, g1, g2⟩ := check_ins c i a x.regs (x.code.length : Int) hp
    rw [g1, Option.bind_some]
    by_cases hz : z = 0
    · rw [dF (by omega), cond_false]
      refine ⟨y, h1, fun h => ⟨(h2 h).1, fun d hd => ?_⟩⟩
      rcases List.mem_cons.1 hd with rfl | hd
      · exact g2 hz
      · exact (h2 h).2 d hd
    · rw [dT hz, cond_true]
      exact ⟨z, rfl, fun h => absurd h hz⟩
theorem b37_tot (a : List Proc) (hp : ∀ x ∈ a, x.params ≤ 3 ∧ CodeLen x) : ∀ l : List Proc, (∀ x ∈ l, x.params ≤ 3 ∧ CodeLen x) → ∃ y, each (code_Check_b37 a) code_Check_k38 l () = some y ∧ (y = 0 → ∀ x ∈ l, ∀ c ∈ x.code, c.args.length ≤ 3)
  | [], _ => ⟨0, rfl, fun _ x hx => by cases hx⟩
  | x :: l, hl => by
    obtain ⟨y, h1, h2⟩ := b37_tot a hp l (fun z hz => hl z (List.mem_cons_of_mem _ hz))
    rw [each_cons]
    unfold code_Check_b37
    have hx := hl x (by simp)
    obtain ⟨z, g1, g2⟩ := b35_tot a x (code_Check_k36 x (each (code_Check_b37 a) code_Check_k38 l)) (fun x hx => (hp x hx).1) (∀ x ∈ l, ∀ c ∈ x.code, c.args.length ≤ 3) (by
      unfold code_Check_k36
      have h3 := hx.2
      unfold CodeLen at h3
      rw [gI, show ((x.code.length : Int) - 1) = ((x.code.length - 1 : Nat) : Int) by omega, idx_lt (by omega), Option.bind_some]
      cases (decide ((x.code[x.code.length - 1].op : Int) ≠ 8) && decide ((x.code[x.code.length - 1].op : Int) ≠ 12)) with
      | true => exact ⟨4, rfl, fun h => absurd h (by decide)⟩
      | false => exact ⟨y, h1, h2⟩) x.code 0
    refine ⟨z, g1, fun h => ?_⟩
    intro w hw
    rcases List.mem_cons.1 hw with rfl | hw
    · exact (g2 h).2
    · exact (g2 h).1 w hw
theorem check_tot (a : List Proc) : ∃ y, code_Check a = some y ∧ (y = 0 → Good a) := by
  unfold code_Check
  generalize hc : (decide (((a.length : Int) : Int) = 0) || decide ((4 : Int) < (a.length : Int))) = C
  cases C with
  | true => exact ⟨2, rfl, fun h => absurd h (by decide)⟩
  | false =>
    simp only [Bool.or_eq_false_iff, decide_eq_false_iff_not] at hc
    have h1 : eachI code_Check_b39 (code_Check_k40 a) 0 a () = _ := heads_eq (code_Check_k40 a) a 0
    rw [cond_false, h1]
    by_cases hz : heads 0 a = 0
    · rw [if_neg (by omega)]
      have hp := heads_zero a 0 hz
      obtain ⟨y, g1, g2⟩ := b37_tot a hp a hp
      exact ⟨y, g1, fun h => ⟨by omega, fun x hx => ⟨(hp x hx).2, g2 h x hx⟩⟩⟩
    · rw [if_pos hz]
      exact ⟨_, rfl, fun h => absurd h hz⟩
def chk (a : List Proc) : Int := (code_Check a).getD 0
theorem chk_eq (a : List Proc) : code_Check a = some (chk a) := by
  obtain ⟨y, h, _⟩ := check_tot a
  unfold chk
  rw [h]; rfl
theorem chk_eq2 (a : List Proc) : wandererref_CheckCode a = some (chk a) := by rw [← check_eq, chk_eq]
theorem chk_good {a : List Proc} (h : chk a = 0) : Good a := by
  obtain ⟨y, h1, h2⟩ := check_tot a
  unfold chk at h
  rw [h1] at h
  exact h2 h
/-! Printing. -/
theorem lineT_cons (x : Int) (l : List Int) : lineT (x :: l) = Lib.itoa x ++ (l.map fun y => 32 :: Lib.itoa y).flatten := by
  induction l generalizing x with
  | nil => unfold lineT; rw [List.map_cons, List.map_nil, joinC_one]; simp
  | cons y l ih =>
    unfold lineT at ih ⊢
    rw [List.map_cons, List.map_cons, joinC_cons, ← List.map_cons, ih y]
    simp
theorem lineT_len {l : List Int} (h : ∀ x ∈ l, I64 x) : (lineT l).length ≤ 22 * l.length := by
  have := joinC_len 32 21 (l.map Lib.itoa) (by
    intro x hx
    obtain ⟨n, hn, rfl⟩ := List.mem_map.1 hx
    exact itoa_len (h n hn))
  rw [List.length_map] at this
  unfold lineT
  omega
/-- A loop that writes a line of numbers onto a text. -/
theorem line_upto {ρ : Type} {body : Int → Str → (Str → Option ρ) → Option ρ} {k : Str → Option ρ} (l : List Int) (hl : l ≠ []) (hw : ∀ x ∈ l, I64 x)
    (hb : ∀ (i : Nat) x y nx, l[i]? = some x → I64 x → y.length ≤ 100000000 → body (i : Int) y nx = nx (if 0 < i then y ++ (32 :: Lib.itoa x) else y ++ Lib.itoa x)) (y : Str) (hy : y.length + 22 * l.length ≤ 100000000) :
    upto body k 0 l.length y = k (y ++ lineT l) := by
  have key : ∀ (m i : Nat) (y : Str), i + m = l.length → 0 < i → y.length + 22 * m ≤ 100000000 → upto body k (i : Int) m y = k (y ++ ((l.drop i).map fun y => 32 :: Lib.itoa y).flatten) := by
    intro m
    induction m with
    | zero =>
      intro i y h _ _
      rw [List.drop_eq_nil_of_le (by omega)]
      simp [upto]
    | succ m ih =>
      intro i y h hi hy
      have h1 : i < l.length := by omega
      have hx := hw l[i] (List.getElem_mem h1)
      show body (i : Int) y (upto body k ((i : Int) + 1) m) = _
      rw [hb i l[i] y _ (List.getElem?_eq_getElem h1) hx (by omega), if_pos hi, show ((i : Int) + 1) = ((i + 1 : Nat) : Int) by omega, ih (i + 1) _ (by omega) (by omega) (by
        have := itoa_len hx
        simp only [List.length_append, List.length_cons]; omega), List.drop_eq_getElem_cons h1]
      simp only [List.map_cons, List.flatten_cons, List.append_assoc, List.cons_append]
  obtain ⟨x, l', rfl⟩ := List.exists_cons_of_ne_nil hl
  show body 0 y (upto body k (0 + 1) l'.length) = _
  have hx := hw x (by simp)
  have e0 := hb 0 x y (upto body k (0 + 1) l'.length) rfl hx (by simp at hy; omega)
  have e0' : body 0 y (upto body k (0 + 1) l'.length) = upto body k (0 + 1) l'.length (y ++ Lib.itoa x) := e0
  rw [e0']
  have := key l'.length 1 (y ++ Lib.itoa x) (by simp; omega) (by omega) (by
    have := itoa_len hx
    simp only [List.length_append]; simp at hy; omega)
  have t : upto body k (0 + 1) l'.length (y ++ Lib.itoa x) = _ := this
  rw [t, lineT_cons]
  simp
theorem linesT_app (a b : List (List Int)) : linesT (a ++ b) = linesT a ++ linesT b := by simp [linesT]
theorem linesT_cons (a : List Int) (b : List (List Int)) : linesT (a :: b) = lineT a ++ 10 :: linesT b := by simp [linesT]
theorem progText_cons (x : Proc) (p : List Proc) : progText (x :: p) = linesT (procLines x) ++ progText p := by
  unfold progText progLines
  rw [List.flatMap_cons, linesT_app]
theorem insLine_len {c : Ins} (h : c.args.length ≤ 3) : (insLine c).length ≤ 7 := by simp [insLine]; omega
theorem head_line_ok {x : Proc} (w : ProcW x) (c : CodeLen x) : ∀ n ∈ [x.params, x.regs, (x.code.length : Int)], I64 n := by
  obtain ⟨w1, w2, _⟩ := w
  obtain ⟨c1, c2⟩ := c
  intro n hn
  simp only [List.mem_cons, List.not_mem_nil, or_false] at hn
  rcases hn with rfl | rfl | rfl
  · exact w1
  · exact w2
  · exact I64.mk (by omega) (by omega)
theorem code_lines_len : ∀ (l : List Ins), (∀ c ∈ l, InsW c ∧ c.args.length ≤ 3) → (linesT (l.map insLine)).length ≤ 155 * l.length
  | [], _ => by simp [linesT]
  | c :: l, h => by
    have := code_lines_len l (fun d hd => h d (List.mem_cons_of_mem _ hd))
    have h1 := lineT_len (insLine_ok (h c (by simp)).1)
    have h2 := insLine_len (h c (by simp)).2
    rw [List.map_cons, linesT_cons]
    simp only [List.length_append, List.length_cons]
    omega
theorem proc_lines_len {x : Proc} (w : ProcW x) (c : CodeLen x) (ha : ∀ c ∈ x.code, c.args.length ≤ 3) : (linesT (procLines x)).length ≤ 400000 := by
  unfold procLines
  rw [linesT_cons]
  have h1 := lineT_len (head_line_ok w c)
  have h2 := code_lines_len x.code (fun d hd => ⟨w.2.2 d hd, ha d hd⟩)
  have h3 := c.2
  simp only [List.length_append, List.length_cons, List.length_nil] at h1 ⊢
  omega
theorem prog_len : ∀ (p : List Proc), (∀ x ∈ p, ProcW x) → (∀ x ∈ p, CodeLen x ∧ ∀ c ∈ x.code, c.args.length ≤ 3) → (progText p).length ≤ 400000 * p.length
  | [], _, _ => by simp [progText, progLines, linesT]
  | x :: p, w, g => by
    have := prog_len p (fun y hy => w y (List.mem_cons_of_mem _ hy)) (fun y hy => g y (List.mem_cons_of_mem _ hy))
    have h1 := proc_lines_len (w x (by simp)) (g x (by simp)).1 (g x (by simp)).2
    rw [progText_cons]
    simp only [List.length_append, List.length_cons]
    omega
end Go.Proofs.YtckocfgmnlhcmaaDoor

namespace Go.Proofs.YtckocfgmnlhcmaaDoor
open Go Go.Proofs Go.LX
theorem idxn {α : Type} {l : List α} {i : Nat} {x : α} (h : l[i]? = some x) : idx l (i : Int) = some x := by rw [idx_nat, h]
theorem b1561_eq (z : Proc) (i : Nat) (x : Int) (y : Str) (nx : Str → Option (Str × Int)) (h : [z.params, z.regs, (z.code.length : Int)][i]? = some x) (hx : I64 x) (hy : y.length ≤ 100000000) :
    image_Print_b1561 z (i : Int) y nx = nx (if 0 < i then y ++ (32 :: Lib.itoa x) else y ++ Lib.itoa x) := by
  have hl := itoa_len hx
  unfold image_Print_b1561
  rw [idxn h, bnd]
  by_cases hi : 0 < i
  · rw [dT (show (0 : Int) < (i : Int) by omega), cond_true, if_pos hi, grd_t (by simp only [List.length_singleton]; omega), image_Print_j1462, itoaS_eq hx, bnd, grd_t (by simp only [List.length_append, List.length_singleton]; omega)]
    simp
  · rw [dF (show ¬ (0 : Int) < (i : Int) by omega), cond_false, if_neg hi, image_Print_j1462, itoaS_eq hx, bnd, grd_t (by omega)]
theorem b1557_eq (c : Ins) (a : List Proc) (i : Nat) (x : Int) (y : Str) (nx : Str → Option (Str × Int)) (h : (insLine c)[i]? = some x) (hx : I64 x) (hy : y.length ≤ 100000000) :
    image_Print_b1557 c a (i : Int) y nx = nx (if 0 < i then y ++ (32 :: Lib.itoa x) else y ++ Lib.itoa x) := by
  have hl := itoa_len hx
  unfold image_Print_b1557
  rw [show ([c.op, c.a, c.b, c.c] ++ c.args) = insLine c from rfl, idxn h, bnd]
  by_cases hi : 0 < i
  · rw [dT (show (0 : Int) < (i : Int) by omega), cond_true, if_pos hi, grd_t (by simp only [List.length_singleton]; omega), image_Print_j1556, itoaS_eq hx, bnd, grd_t (by simp only [List.length_append, List.length_singleton]; omega)]
    simp
  · rw [dF (show ¬ (0 : Int) < (i : Int) by omega), cond_false, if_neg hi, image_Print_j1556, itoaS_eq hx, bnd, grd_t (by omega)]
theorem print_code (a : List Proc) (nx : Str → Option (Str × Int)) : ∀ (l : List Ins) (y : Str), (∀ c ∈ l, InsW c ∧ c.args.length ≤ 3) → y.length + 160 * l.length ≤ 90000000 →
    each (image_Print_b1559 a) (image_Print_k1560 nx) l y = nx (y ++ linesT (l.map insLine))
  | [], y, _, _ => by rw [each_nil]; unfold image_Print_k1560; simp [linesT]
  | c :: l, y, h, hy => by
    have hc := h c (by simp)
    have h7 := insLine_len hc.2
    have hl := lineT_len (insLine_ok hc.1)
    simp only [List.length_cons] at hy
    rw [each_cons, image_Print_b1559, grd_t (Room.mk (by simp only [List.length_cons, List.length_nil]; omega) (by simp only [List.length_cons, List.length_nil]; omega)), show ([c.op, c.a, c.b, c.c] ++ c.args) = insLine c from rfl, Int.toNat_natCast]
    rw [line_upto (insLine c) (insLine_ne c) (insLine_ok hc.1) (fun i x y nx h1 h2 h3 => b1557_eq c a i x y nx h1 h2 h3) y (by omega)]
    unfold image_Print_k1558
    rw [grd_t (by simp only [List.length_append, List.length_singleton]; omega), print_code a nx l _ (fun d hd => h d (List.mem_cons_of_mem _ hd)) (by simp only [List.length_append, List.length_singleton]; omega), List.map_cons, linesT_cons]
    simp
theorem print_each (a : List Proc) : ∀ (p : List Proc) (y : Str), (∀ x ∈ p, ProcW x) → (∀ x ∈ p, CodeLen x ∧ ∀ c ∈ x.code, c.args.length ≤ 3) → y.length + 400000 * p.length ≤ 10000000 →
    each (image_Print_b1563 a) image_Print_k1564 p y = some (y ++ progText p, 0)
  | [], y, _, _, _ => by rw [each_nil]; unfold image_Print_k1564; simp [progText, progLines, linesT]
  | x :: p, y, w, g, hy => by
    have wx := w x (by simp)
    have gx := g x (by simp)
    have hh := head_line_ok wx gx.1
    have h3 := lineT_len hh
    have hp := proc_lines_len wx gx.1 gx.2
    have h2000 := gx.1.2
    simp only [List.length_cons, List.length_nil] at hy h3
    rw [each_cons, image_Print_b1563, Int.toNat_natCast, line_upto [x.params, x.regs, (x.code.length : Int)] (by simp) hh (fun i z y nx h1 h2 h3 => b1561_eq x i z y nx h1 h2 h3) y (by simp only [List.length_cons, List.length_nil]; omega)]
    unfold image_Print_k1562
    rw [grd_t (by simp only [List.length_append, List.length_singleton]; omega), print_code a _ x.code _ (fun c hc => ⟨wx.2.2 c hc, gx.2 c hc⟩) (by simp only [List.length_append, List.length_singleton]; omega)]
    have e : y ++ lineT [x.params, x.regs, (x.code.length : Int)] ++ [10] ++ linesT (x.code.map insLine) = y ++ linesT (procLines x) := by
      unfold procLines; rw [linesT_cons]; simp
    rw [e, print_each a p _ (fun z hz => w z (List.mem_cons_of_mem _ hz)) (fun z hz => g z (List.mem_cons_of_mem _ hz)) (by simp only [List.length_append]; omega), progText_cons]
    simp
theorem print_eq (a : List Proc) (w : ∀ x ∈ a, ProcW x) : image_Print a = some (if chk a = 0 then (progText a, 0) else ([], chk a)) := by
  unfold image_Print
  rw [chk_eq, bnd]
  by_cases h : chk a = 0
  · have g := chk_good h
    rw [dF (by omega), cond_false, if_pos h, print_each a a [] w g.2 (by have := g.1; simp; omega)]
    simp
  · rw [dT h, cond_true, if_neg h]
/-! What the document prints. -/
theorem words_upto {ρ : Type} {body : Int → List Str → (List Str → Option ρ) → Option ρ} {k : List Str → Option ρ} (l : List Int) (hw : ∀ x ∈ l, I64 x)
    (hb : ∀ (i : Nat) x y nx, l[i]? = some x → I64 x → y.length ≤ 1000 → body (i : Int) y nx = nx (y ++ [Lib.itoa x])) (hy : l.length ≤ 1000) :
    upto body k 0 l.length [] = k (l.map Lib.itoa) := by
  have key : ∀ (m i : Nat), i + m = l.length → upto body k (i : Int) m ((l.take i).map Lib.itoa) = k (l.map Lib.itoa) := by
    intro m
    induction m with
    | zero => intro i h; rw [List.take_of_length_le (by omega)]; rfl
    | succ m ih =>
      intro i h
      have h1 : i < l.length := by omega
      show body (i : Int) _ (upto body k ((i : Int) + 1) m) = _
      rw [hb i l[i] _ _ (List.getElem?_eq_getElem h1) (hw _ (List.getElem_mem h1)) (by simp; omega), show ((i : Int) + 1) = ((i + 1 : Nat) : Int) by omega]
      have e : ((l.take i).map Lib.itoa) ++ [Lib.itoa l[i]] = (l.take (i + 1)).map Lib.itoa := by
        rw [List.take_succ_eq_append_getElem h1, List.map_append]; rfl
      rw [e, ih (i + 1) (by omega)]
  have := key l.length 0 (by omega)
  simpa using this
theorem concat5 : ∀ (l : List (List Int)) (acc : List Int), acc.length + (l.map List.length).sum ≤ 1000000 → each slices_Concat_int_b5 slices_Concat_int_k6 l acc = some (acc ++ l.flatten)
  | [], acc, _ => by simp [each_nil, slices_Concat_int_k6]
  | x :: l, acc, h => by
    simp only [List.map_cons, List.sum_cons] at h
    rw [each_cons, slices_Concat_int_b5, grd_t ⟨by omega, by omega⟩, concat5 l _ (by simp; omega)]
    simp
theorem concat7 (a : List (List Int)) : ∀ (l : List (List Int)) (n : Nat), n + (l.map List.length).sum ≤ 1000000 → each slices_Concat_int_b7 (slices_Concat_int_k8 a) l (n : Int) = slices_Concat_int_k8 a ((n + (l.map List.length).sum : Nat) : Int)
  | [], n, _ => by simp [each_nil]
  | x :: l, n, h => by
    simp only [List.map_cons, List.sum_cons] at h ⊢
    rw [each_cons, slices_Concat_int_b7, gI, dF (by omega), cond_false, show ((n : Int) + (x.length : Int)) = ((n + x.length : Nat) : Int) by omega, concat7 a l _ (by omega), Nat.add_assoc]
theorem concat_eq (a : List (List Int)) (h : (a.map List.length).sum ≤ 1000000) : slices_Concat_int a = some a.flatten := by
  unfold slices_Concat_int
  have := concat7 a a 0 (by omega)
  have e : each slices_Concat_int_b7 (slices_Concat_int_k8 a) a 0 = _ := this
  rw [e, slices_Concat_int_k8, growN, grd_t ⟨by omega, by omega⟩, bnd, concat5 a [] (by simp; omega)]
  simp
theorem b451_eq (l : List Int) (i : Nat) (x : Int) (y : List Str) (nx : List Str → Option Str) (h : l[i]? = some x) (hx : I64 x) (hy : y.length ≤ 1000) : wandererref_CodeText_b451 l (i : Int) y nx = nx (y ++ [Lib.itoa x]) := by
  unfold wandererref_CodeText_b451
  rw [idxn h, bnd, itoaS_eq hx, bnd, grd_t ⟨by simp; omega, by simp; omega⟩]
theorem b457_eq (z : Proc) (i : Nat) (x : Int) (y : List Str) (nx : List Str → Option Str) (h : [z.params, z.regs, (z.code.length : Int)][i]? = some x) (hx : I64 x) (hy : y.length ≤ 1000) : wandererref_CodeText_b457 z (i : Int) y nx = nx (y ++ [Lib.itoa x]) := by
  unfold wandererref_CodeText_b457
  rw [idxn h, bnd, itoaS_eq hx, bnd, grd_t ⟨by simp; omega, by simp; omega⟩]
theorem joinS_line {l : List Int} (h : ∀ x ∈ l, I64 x) (hl : l.length ≤ 1000) : joinS (l.map Lib.itoa) [32] = some (lineT l) := by
  have := lineT_len h
  exact joinS_eq 32 (by simp; omega) (by show (lineT l).length ≤ _; omega)
theorem text_code (a : List Proc) (nx : Str → Option Str) : ∀ (l : List Ins) (y : Str), (∀ c ∈ l, InsW c ∧ c.args.length ≤ 3) → y.length + 160 * l.length ≤ 90000000 →
    each (wandererref_CodeText_b453 a) (wandererref_CodeText_k454 nx) l y = nx (y ++ linesT (l.map insLine))
  | [], y, _, _ => by rw [each_nil]; unfold wandererref_CodeText_k454; simp [linesT]
  | c :: l, y, h, hy => by
    have hc := h c (by simp)
    have h7 := insLine_len hc.2
    have hl := lineT_len (insLine_ok hc.1)
    simp only [List.length_cons] at hy
    rw [each_cons, wandererref_CodeText_b453, concat_eq _ (by simp; omega), bnd, show [[c.op, c.a, c.b, c.c], c.args].flatten = insLine c by simp [insLine], Int.toNat_natCast,
      words_upto (insLine c) (insLine_ok hc.1) (fun i x y nx h1 h2 h3 => b451_eq _ i x y nx h1 h2 h3) (by omega), wandererref_CodeText_k452, joinS_line (insLine_ok hc.1) (by omega), bnd,
      grd_t (by simp only [List.length_singleton]; omega), grd_t (by simp only [List.length_append, List.length_singleton]; omega), wandererref_CodeText_j448,
      text_code a nx l _ (fun d hd => h d (List.mem_cons_of_mem _ hd)) (by simp only [List.length_append, List.length_singleton]; omega), List.map_cons, linesT_cons]
    simp
theorem text_each (a : List Proc) : ∀ (p : List Proc) (y : Str), (∀ x ∈ p, ProcW x) → (∀ x ∈ p, CodeLen x ∧ ∀ c ∈ x.code, c.args.length ≤ 3) → y.length + 400000 * p.length ≤ 10000000 →
    each (wandererref_CodeText_b459 a) wandererref_CodeText_k460 p y = some (y ++ progText p)
  | [], y, _, _, _ => by rw [each_nil]; unfold wandererref_CodeText_k460; simp [progText, progLines, linesT]
  | x :: p, y, w, g, hy => by
    have wx := w x (by simp)
    have gx := g x (by simp)
    have hh := head_line_ok wx gx.1
    have h3 := lineT_len hh
    have hp := proc_lines_len wx gx.1 gx.2
    have h2000 := gx.1.2
    simp only [List.length_cons, List.length_nil] at hy h3
    rw [each_cons, wandererref_CodeText_b459, Int.toNat_natCast, words_upto _ hh (fun i z y nx h1 h2 h3 => b457_eq x i z y nx h1 h2 h3) (by simp), wandererref_CodeText_k458, joinS_line hh (by simp), bnd,
      grd_t (by simp only [List.length_singleton]; omega), grd_t (by simp only [List.length_append, List.length_singleton]; omega), wandererref_CodeText_j425,
      text_code a _ x.code _ (fun c hc => ⟨wx.2.2 c hc, gx.2 c hc⟩) (by simp only [List.length_append, List.length_singleton]; omega)]
    have e : y ++ (lineT [x.params, x.regs, (x.code.length : Int)] ++ [10]) ++ linesT (x.code.map insLine) = y ++ linesT (procLines x) := by
      unfold procLines; rw [linesT_cons]; simp
    rw [e, text_each a p _ (fun z hz => w z (List.mem_cons_of_mem _ hz)) (fun z hz => g z (List.mem_cons_of_mem _ hz)) (by simp only [List.length_append]; omega), progText_cons]
    simp
theorem text_eq (a : List Proc) (w : ∀ x ∈ a, ProcW x) (h : chk a = 0) : wandererref_CodeText a = some (progText a) := by
  have g := chk_good h
  unfold wandererref_CodeText
  rw [text_each a a [] w g.2 (by have := g.1; simp; omega)]
  simp
/-! Reading. -/
theorem rnumbers_each : ∀ (w : List Str) (acc : List Int), (∀ x ∈ w, x.length ≤ 60000) → acc.length + w.length ≤ 1000000 →
    each wandererref_numbers_b27 wandererref_numbers_k28 w acc = some (match w.mapM numOf with | some v => (acc ++ v, true) | none => ([], false))
  | [], acc, _, _ => by simp [each_nil, wandererref_numbers_k28]
  | x :: w, acc, h, hl => by
    have hx := h x (by simp)
    simp only [List.length_cons] at hl
    have ih := fun y => rnumbers_each w (acc ++ [y]) (fun z hz => h z (List.mem_cons_of_mem _ hz)) (by simp; omega)
    rw [each_cons, wandererref_numbers_b27, parseS_eq (by omega), bnd, List.mapM_cons]
    cases e : Lib.atoiAll x with
    | ok v =>
      have hv : I64 v := Lib.atoiAll_bounds e
      simp only [cond_false]
      rw [itoaS_eq hv, bnd, wandererref_numbers_j26]
      by_cases hq : Lib.itoa v = x
      · rw [dF (by simpa using hq), cond_false, grd_t ⟨by simp; omega, by simp; omega⟩, ih]
        have : numOf x = some v := by simp [numOf, e, hq]
        rw [this]
        cases e2 : w.mapM numOf with
        | none => rfl
        | some m => simp
      · rw [dT hq, cond_true]
        have : numOf x = none := by simp [numOf, e, hq]
        rw [this]; rfl
    | range =>
      have : numOf x = none := by simp [numOf, e]
      rw [this]; rfl
    | _ =>
      have : numOf x = none := by simp [numOf, e]
      rw [this]; rfl
theorem rnumbers_eq (s : Str) (h : s.length ≤ 60000) : wandererref_numbers s = some (match numsC 32 s with | some v => (v, true) | none => ([], false)) := by
  unfold wandererref_numbers numsC
  have h1 := splitC_len 32 s
  rw [splitS_eq 32 (by omega), bnd, rnumbers_each _ [] (fun x hx => by have := splitC_mem 32 s x hx; omega) (by simp; omega)]
  simp
theorem inumbers_each : ∀ (w : List Str) (acc : List Int), (∀ x ∈ w, x.length ≤ 60000) → acc.length + w.length ≤ 1000000 →
    each image_numbers_b27 image_numbers_k28 w acc = some (match w.mapM numOf with | some v => (acc ++ v, true) | none => ([], false))
  | [], acc, _, _ => by simp [each_nil, image_numbers_k28]
  | x :: w, acc, h, hl => by
    have hx := h x (by simp)
    simp only [List.length_cons] at hl
    have ih := fun y => inumbers_each w (acc ++ [y]) (fun z hz => h z (List.mem_cons_of_mem _ hz)) (by simp; omega)
    rw [each_cons, image_numbers_b27, atoiS_eq (by omega), bnd, List.mapM_cons]
    cases e : Lib.atoiAll x with
    | ok v =>
      have hv : I64 v := Lib.atoiAll_bounds e
      simp only [cond_false]
      rw [itoaS_eq hv, bnd, image_numbers_j26]
      by_cases hq : Lib.itoa v = x
      · rw [dF (by simpa using hq), cond_false, grd_t ⟨by simp; omega, by simp; omega⟩, ih]
        have : numOf x = some v := by simp [numOf, e, hq]
        rw [this]
        cases e2 : w.mapM numOf with
        | none => rfl
        | some m => simp
      · rw [dT hq, cond_true]
        have : numOf x = none := by simp [numOf, e, hq]
        rw [this]; rfl
    | range =>
      have : numOf x = none := by simp [numOf, e]
      rw [this]; rfl
    | _ =>
      have : numOf x = none := by simp [numOf, e]
      rw [this]; rfl
theorem inumbers_eq (s : Str) (h : s.length ≤ 60000) : image_numbers s = some (match numsC 32 s with | some v => (v, true) | none => ([], false)) := by
  unfold image_numbers numsC
  have h1 := splitC_len 32 s
  rw [splitS_eq 32 (by omega), bnd, inumbers_each _ [] (fun x hx => by have := splitC_mem 32 s x hx; omega) (by simp; omega)]
  simp
end Go.Proofs.YtckocfgmnlhcmaaDoor

namespace Go.Proofs.YtckocfgmnlhcmaaDoor
open Go Go.Proofs Go.LX
/-- What comes of a text that was read to its end. -/
def fin (st : List Proc × Int) : List Proc × Int := if st.2 ≠ 0 then ([], 1) else if chk st.1 ≠ 0 then ([], chk st.1) else (st.1, 0)
def finR (r : Option (List Proc × Int)) : List Proc × Int := match r with | some st => fin st | none => ([], 1)
def parseL (ws : List Str) (st : List Proc × Int) : List Proc × Int := match ws.getLast? with | some [] => finR (readL ws.dropLast st) | _ => ([], 1)
theorem parseL_cons {x y : Str} {l : List Str} {st : List Proc × Int} : parseL (x :: y :: l) st = match (numsC 32 x).bind fun m => stepL m st with | some st' => parseL (y :: l) st' | none => ([], 1) := by
  unfold parseL
  rw [List.getLast?_cons_cons, List.dropLast_cons_cons, readL]
  cases e : numsC 32 x with
  | none =>
    simp only [Option.bind_none, finR]
    split <;> rfl
  | some m =>
    rw [Option.bind_some, Option.bind_some]
    cases e2 : stepL m st with
    | none =>
      simp only [Option.bind_none, finR]
      split <;> rfl
    | some st' => rfl
theorem again_succ {σ β : Type} {body : σ → (σ → Option β) → Option β} (n : Nat) (s : σ) : again body (n + 1) s = body s (again body n) := rfl
theorem four {l : List Int} (h : ¬ l.length < 4) : ∃ a b c d r, l = a :: b :: c :: d :: r := by
  match l with
  | a :: b :: c :: d :: r => exact ⟨a, b, c, d, r, rfl⟩
  | [] => simp at h
  | [a] => simp at h
  | [a, b] => simp at h
  | [a, b, c] => simp at h
theorem stepL_three {m : List Int} {q : List Proc} (h : m.length ≠ 3) : stepL m (q, 0) = none := by
  unfold stepL
  rw [if_pos rfl]
  match m with
  | [] => rfl
  | [a] => rfl
  | [a, b] => rfl
  | [a, b, c] => simp at h
  | a :: b :: c :: d :: r => rfl
theorem stepL_four {m : List Int} {q : List Proc} {k : Int} (hk : k ≠ 0) (h : m.length < 4) : stepL m (q, k) = none := by
  unfold stepL
  rw [if_neg hk]
  match m with
  | [] => rfl
  | [a] => rfl
  | [a, b] => rfl
  | [a, b, c] => rfl
  | a :: b :: c :: d :: r => simp at h; omega
theorem numsC_len {x : Str} {m : List Int} (h : numsC 32 x = some m) : m.length ≤ x.length + 1 := by
  obtain ⟨h1, _⟩ := mapM_num_some h
  have := splitC_len 32 x
  rw [h1] at this
  simpa using this
structure Bnd (st : List Proc × Int) (n : Nat) : Prop where
  ok : StOk st
  many : st.1.length + n ≤ 60010
  code : ∀ x ∈ st.1, x.code.length + n ≤ 60010
  left : st.2 ≤ 2000
theorem step_bnd {m : List Int} {st st' : List Proc × Int} {n : Nat} (h : Bnd st (n + 1)) (hs : stepL m st = some st') : Bnd st' n := by
  refine ⟨(stepL_ok h.ok hs).1, ?_, ?_, ?_⟩ <;> obtain ⟨⟨h1, h2⟩, h3, h4, h5⟩ := h <;> obtain ⟨q, k⟩ := st <;> simp only at h1 h2 h3 h4 h5 <;> unfold stepL at hs <;> simp only at hs
  all_goals
    by_cases hk : k = 0
    · rw [if_pos hk] at hs
      match m, hs with
      | [a, b, n], hs =>
        simp only at hs
        split at hs
        · cases hs
        · cases hs
          first
            | (simp only [List.length_append, List.length_singleton]; omega)
            | (intro x hx
               rcases List.mem_append.1 hx with hx | hx
               · have := h4 x hx; omega
               · simp only [List.mem_singleton] at hx; subst hx; simp; omega)
            | (simp only; omega)
      | [], hs => cases hs
      | [a], hs => cases hs
      | [a, b], hs => cases hs
      | a :: b :: c :: d :: r, hs => cases hs
    · rw [if_neg hk] at hs
      match m, hs with
      | op :: a :: b :: c :: args, hs =>
        simp only at hs
        have hq : q ≠ [] := h2 hk
        obtain ⟨q', x, rfl⟩ : ∃ q' x, q = q' ++ [x] := ⟨q.dropLast, q.getLast hq, (List.dropLast_concat_getLast hq).symm⟩
        simp only [List.getLast?_append, List.getLast?_singleton, Option.some_or, List.dropLast_concat] at hs
        cases hs
        first
          | (simp only [List.length_append, List.length_singleton] at h3 ⊢; omega)
          | (intro y hy
             rcases List.mem_append.1 hy with hy | hy
             · have := h4 y (by simp [hy]); omega
             · simp only [List.mem_singleton] at hy; subst hy
               have := h4 x (by simp)
               simp only [List.length_append, List.length_singleton]; omega)
          | (simp only; omega)
      | [], hs => cases hs
      | [a], hs => cases hs
      | [a, b], hs => cases hs
      | [a, b, c], hs => cases hs
theorem parse_step {x r : Str} {st : List Proc × Int} {n : Nat} (hx : (10 : UInt8) ∉ x) (hl : (x ++ 10 :: r).length ≤ 60000) (h : Bnd st (n + 1)) (nx : Str × List Proc × Int → Option (List Proc × Int)) :
    image_Parse_b26 (x ++ 10 :: r, st.1, st.2) nx = match (numsC 32 x).bind fun m => stepL m st with | some st' => nx (r, st'.1, st'.2) | none => some ([], 1) := by
  obtain ⟨⟨h1, h2⟩, h3, h4, h5⟩ := h
  obtain ⟨q, k⟩ := st
  simp only at h1 h2 h3 h4 h5
  unfold image_Parse_b26
  simp only
  rw [dT (by simp), cond_true, cutS_hit hx (by omega), bnd]
  simp only
  rw [inumbers_eq x (by simp at hl; omega), bnd]
  cases e : numsC 32 x with
  | none => rfl
  | some m =>
    rw [Option.bind_some]
    simp only [Bool.not_true, Bool.or_self, cond_false]
    by_cases hk : k = 0
    · subst hk
      rw [dT rfl, cond_true]
      by_cases h3' : m.length = 3
      · obtain ⟨a, b, c, rfl⟩ : ∃ a b c, m = [a, b, c] := by
          match m, h3' with
          | [a, b, c], _ => exact ⟨a, b, c, rfl⟩
        rw [dF (by simp), cond_false, idx2, bnd]
        unfold stepL
        rw [if_pos rfl]
        simp only
        by_cases hc : c < 1 ∨ 2000 < c
        · rw [if_pos hc]
          by_cases hc1 : c < 1
          · rw [dT hc1, cond_true, image_Parse_j25, cond_true]
          · rw [dF hc1, cond_false, dT (by omega), image_Parse_j25, cond_true]
        · rw [if_neg hc, dF (by omega), cond_false, dF (by omega), image_Parse_j25, cond_false, idx0, bnd, idx1', bnd, idx2, bnd, grd_t ⟨by simp; omega, by simp; omega⟩]
      · rw [dT (by omega), cond_true, image_Parse_j25, cond_true, stepL_three h3']
    · rw [dF hk, cond_false]
      by_cases h4' : m.length < 4
      · rw [dT (by omega), cond_true, stepL_four hk h4']
      · rw [dF (by omega), cond_false]
        obtain ⟨o, a, b, c, args, rfl⟩ := four h4'
        have hq : q ≠ [] := h2 hk
        obtain ⟨q', y, rfl⟩ : ∃ q' y, q = q' ++ [y] := ⟨q.dropLast, q.getLast hq, (List.dropLast_concat_getLast hq).symm⟩
        have hy := h4 y (by simp)
        have hm := numsC_len e
        rw [gI (by simp only [List.length_append, List.length_singleton] at h3 ⊢; omega) (by simp only [List.length_append, List.length_singleton] at h3 ⊢; omega), show (((q' ++ [y]).length : Int) - 1) = (q'.length : Int) by simp, show idx (q' ++ [y]) (q'.length : Int) = some y by rw [idx_nat]; simp, bnd, idx0, bnd, idx1', bnd, idx2, bnd,
          show idx (o :: a :: b :: c :: args) 3 = some c by simp [idx], bnd,
          show sub? (o :: a :: b :: c :: args) 4 ((o :: a :: b :: c :: args).length : Int) = some args by
            have := sub_s (l := o :: a :: b :: c :: args) (a := 4) (b := (o :: a :: b :: c :: args).length) (by simp) (Nat.le_refl _)
            rw [show (4 : Int) = ((4 : Nat) : Int) from rfl, this]; simp, bnd,
          grd_t ⟨by simp only [List.length_singleton]; omega, by simp only [List.length_singleton]; omega⟩, gI (by omega) (by omega)]
        unfold stepL
        rw [if_neg hk]
        simp only [List.getLast?_append, List.getLast?_singleton, Option.some_or, List.dropLast_concat, Int.toNat_natCast]
        simp
theorem parse_loop : ∀ (ws : List Str) (s : Str) (st : List Proc × Int) (N : Nat), splitC 10 s = ws → s.length ≤ 60000 → ws.length ≤ N → Bnd st ws.length → again image_Parse_b26 N (s, st.1, st.2) = some (parseL ws st)
  | [], s, st, N, hs, _, _, _ => absurd hs (splitC_ne 10 s)
  | [x], s, st, N, hs, hl, hN, h => by
    obtain ⟨M, rfl⟩ : ∃ M, N = M + 1 := ⟨N - 1, by simp at hN; omega⟩
    obtain ⟨rfl, hx⟩ := splitC_single hs
    rw [again_succ]
    by_cases hs0 : s = []
    · subst hs0
      have h1 := h.ok.1
      unfold image_Parse_b26
      simp only
      rw [dF (by simp), cond_false]
      show _ = some (fin st)
      unfold fin
      by_cases h2 : st.2 = 0
      · rw [dF (by omega), cond_false, if_neg (by omega), chk_eq, bnd]
        by_cases h3 : chk st.1 = 0
        · rw [dF (by omega), cond_false, if_neg (by omega)]
        · rw [dT h3, cond_true, if_pos h3]
      · rw [dT (by omega), cond_true, if_pos h2]
    · unfold image_Parse_b26
      simp only
      rw [dT hs0, cond_true, cutS_free hx (by omega), bnd]
      simp only
      rw [inumbers_eq s hl, bnd]
      simp only [Bool.not_false, Bool.true_or, cond_true]
      unfold parseL
      rw [List.getLast?_singleton]
      obtain ⟨c, s', rfl⟩ := List.exists_cons_of_ne_nil hs0
      rfl
  | x :: y :: l, s, st, N, hs, hl, hN, h => by
    obtain ⟨M, rfl⟩ : ∃ M, N = M + 1 := ⟨N - 1, by simp at hN; omega⟩
    obtain ⟨r, rfl, hr, hx⟩ := splitC_cons hs
    rw [again_succ, parse_step hx hl h, parseL_cons]
    cases e : (numsC 32 x).bind fun m => stepL m st with
    | none => rfl
    | some st' =>
      obtain ⟨m, _, e2⟩ : ∃ m, numsC 32 x = some m ∧ stepL m st = some st' := by
        cases e1 : numsC 32 x with
        | none => rw [e1] at e; cases e
        | some m => rw [e1, Option.bind_some] at e; exact ⟨m, rfl, e⟩
      exact parse_loop (y :: l) r st' M hr (by simp at hl; omega) (by simp at hN ⊢; omega) (step_bnd h e2)
def imgParse (s : Str) : List Proc × Int := if 60000 < s.length then ([], 2) else parseL (splitC 10 s) ([], 0)
theorem parse_eq (N : Nat) (hN : 60002 ≤ N) (s : Str) : image_Parse N s = some (imgParse s) := by
  unfold image_Parse imgParse
  by_cases h : 60000 < s.length
  · rw [dT (by omega), cond_true, if_pos h]
  · rw [dF (by omega), cond_false, if_neg h]
    have h1 := splitC_len 10 s
    exact parse_loop (splitC 10 s) s ([], 0) N rfl (by omega) (by omega) ⟨⟨by decide, fun h => absurd rfl h⟩, (by simp; omega), (by intro x hx; cases hx), (by decide)⟩
theorem parse_read (s : Str) : parseL (splitC 10 s) ([], 0) = match imgRead s with | some p => if chk p ≠ 0 then ([], chk p) else (p, 0) | none => ([], 1) := by
  unfold parseL imgRead
  generalize (splitC 10 s).getLast? = g
  match g with
  | none => rfl
  | some (_ :: _) => rfl
  | some [] =>
    simp only
    cases readL (splitC 10 s).dropLast ([], 0) with
    | none => rfl
    | some st =>
      obtain ⟨q, k⟩ := st
      simp only [finR, fin]
      by_cases hk : k = 0
      · subst hk; rfl
      · rw [if_pos hk, if_neg hk]
/-! The document's reading. -/
theorem short : ∀ (ws : List Str) (st : List Proc × Int), (ws.length : Int) < st.2 → finR (readL ws st) = ([], 1)
  | [], st, h => by
    show fin st = _
    unfold fin
    rw [if_pos (by simp at h; omega)]
  | w :: ws, st, h => by
    unfold readL
    cases numsC 32 w with
    | none => rfl
    | some m =>
      rw [Option.bind_some]
      cases e : stepL m st with
      | none => rfl
      | some st' =>
        rw [Option.bind_some]
        refine short ws st' ?_
        obtain ⟨q, k⟩ := st
        simp only [List.length_cons] at h
        unfold stepL at e
        simp only at e
        rw [if_neg (by omega)] at e
        split at e
        · split at e
          · cases e
          · cases e; simp only; omega
        · cases e
theorem in_iff {x a b : Int} : wandererref_in x a b = decide (a ≤ x ∧ x ≤ b) := by
  unfold wandererref_in; rw [Bool.eq_iff_iff]; simp
theorem read_inner (x16 : List Str) (hx : ∀ w ∈ x16, w.length ≤ 60000) (hlen : x16.length ≤ 60001) (n a b : Int) (p : List Proc) (hn : n ≤ 2000) (nx : List Proc × Int → Option (List Proc × Int)) (hp : p.length ≤ 60001)
    (i0 : Nat) (hnx : ∀ (c : List Ins) (i : Nat), i0 < i → i ≤ x16.length → nx (p ++ [⟨a, b, c⟩], (i : Int)) = some (finR (readL (x16.drop i) (p ++ [⟨a, b, c⟩], 0)))) :
    ∀ (j i N : Nat) (c : List Ins), i0 ≤ i → i + j < x16.length → j < N → (c.length : Int) + j = n → again (wandererref_CodeRead_b121 n x16 p a b nx) N ((i : Int), (c.length : Int), c) = some (finR (readL (x16.drop (i + 1)) (p ++ [⟨a, b, c⟩], (j : Int))))
  | 0, i, N, c, h0, h, hN, hc => by
    obtain ⟨M, rfl⟩ : ∃ M, N = M + 1 := ⟨N - 1, by omega⟩
    rw [again_succ]
    unfold wandererref_CodeRead_b121
    simp only
    rw [dF (by omega), cond_false, grd_t ⟨by simp only [List.length_singleton]; omega, by simp only [List.length_singleton]; omega⟩, gI (by omega) (by omega), show ((i : Int) + 1) = ((i + 1 : Nat) : Int) by omega, hnx c (i + 1) (by omega) (by omega)]
    rfl
  | j + 1, i, N, c, h0, h, hN, hc => by
    obtain ⟨M, rfl⟩ : ∃ M, N = M + 1 := ⟨N - 1, by omega⟩
    have hi : i + 1 < x16.length := by omega
    have hw := hx x16[i + 1] (List.getElem_mem hi)
    rw [again_succ, List.drop_eq_getElem_cons hi, readL]
    generalize hg : again (wandererref_CodeRead_b121 n x16 p a b nx) M = nxt
    unfold wandererref_CodeRead_b121
    simp only
    rw [dT (by omega), cond_true, gI (by omega) (by omega), show ((i : Int) + 1) = ((i + 1 : Nat) : Int) by omega, idx_lt hi, bnd, rnumbers_eq _ hw, bnd]
    cases e : numsC 32 x16[i + 1] with
    | none => rfl
    | some m =>
      rw [Option.bind_some]
      simp only [Bool.not_true, Bool.false_or]
      by_cases h4 : m.length < 4
      · rw [dT (by omega), cond_true, stepL_four (by omega) h4]; rfl
      · rw [dF (by omega), cond_false]
        obtain ⟨o, d, f, g, args, rfl⟩ := four h4
        have hm := numsC_len e
        rw [idx0, bnd, idx1', bnd, idx2, bnd, show idx (o :: d :: f :: g :: args) 3 = some g by simp [idx], bnd,
          show sub? (o :: d :: f :: g :: args) 4 ((o :: d :: f :: g :: args).length : Int) = some args by
            have := sub_s (l := o :: d :: f :: g :: args) (a := 4) (b := (o :: d :: f :: g :: args).length) (by simp) (Nat.le_refl _)
            rw [show (4 : Int) = ((4 : Nat) : Int) from rfl, this]; simp, bnd,
          grd_t ⟨by simp only [List.length_singleton]; omega, by simp only [List.length_singleton]; omega⟩]
        unfold wandererref_CodeRead_j120
        rw [gI (by omega) (by omega)]
        have ih := read_inner x16 hx hlen n a b p hn nx hp i0 hnx j (i + 1) M (c ++ [⟨o, d, f, g, args⟩]) (by omega) (by omega) (by omega) (by simp only [List.length_append, List.length_singleton]; omega)
        have e3 : ((c ++ [(⟨o, d, f, g, args⟩ : Ins)]).length : Int) = (c.length : Int) + 1 := by simp
        rw [e3, hg] at ih
        rw [show ((i : Int) + 1) = ((i + 1 : Nat) : Int) by omega, ih]
        have e4 := stepL_more ⟨o, d, f, g, args⟩ p ⟨a, b, c⟩ ((j + 1 : Nat) : Int) (by omega)
        have e5 : stepL (o :: d :: f :: g :: args) (p ++ [⟨a, b, c⟩], ((j + 1 : Nat) : Int)) = some (p ++ [⟨a, b, c ++ [⟨o, d, f, g, args⟩]⟩], (((j + 1 : Nat) : Int)) - 1) := e4
        rw [e5, Option.bind_some, show (((j + 1 : Nat) : Int)) - 1 = (j : Int) by omega]
theorem read_outer (N : Nat) (hN : 60002 ≤ N) (x16 : List Str) (hx : ∀ w ∈ x16, w.length ≤ 60000) (hlen : x16.length ≤ 60001) :
    ∀ (n i : Nat) (p : List Proc), i ≤ x16.length → x16.length - i < n → p.length ≤ i → again (wandererref_CodeRead_b122 N x16) n (p, (i : Int)) = some (finR (readL (x16.drop i) (p, 0)))
  | 0, i, p, hi, hn, hp => absurd hn (by omega)
  | n + 1, i, p, hi, hn, hp => by
    rw [again_succ]
    generalize hg : again (wandererref_CodeRead_b122 N x16) n = nxt
    unfold wandererref_CodeRead_b122
    simp only
    by_cases hl : i < x16.length
    · have hw := hx x16[i] (List.getElem_mem hl)
      rw [dT (by omega), cond_true, idx_lt hl, bnd, rnumbers_eq _ hw, bnd, List.drop_eq_getElem_cons hl, readL]
      cases e : numsC 32 x16[i] with
      | none => simp only [Bool.not_false, Bool.true_or, cond_true]; unfold wandererref_CodeRead_j113; rfl
      | some m =>
        rw [Option.bind_some]
        simp only [Bool.not_true, Bool.false_or]
        by_cases h3 : m.length = 3
        · obtain ⟨a, b, c, rfl⟩ : ∃ a b c, m = [a, b, c] := by
            match m, h3 with
            | [a, b, c], _ => exact ⟨a, b, c, rfl⟩
          rw [dF (by simp), cond_false, idx2, bnd, in_iff]
          by_cases hc : 1 ≤ c ∧ c ≤ 2000
          · rw [dT hc, Bool.not_true, cond_false, gI (by omega) (by omega), gI (by omega) (by omega), stepL_zero a b c p hc, Option.bind_some]
            by_cases hs : (x16.length : Int) - 1 - i < c
            · rw [dT hs]
              unfold wandererref_CodeRead_j113
              rw [cond_true, short _ _ (by simp only [List.length_drop]; omega)]
            · rw [dF hs]
              unfold wandererref_CodeRead_j113
              rw [cond_false, idx0, bnd, idx1', bnd, idx2, bnd]
              obtain ⟨j, hj⟩ := Int.eq_ofNat_of_zero_le (show 0 ≤ c by omega)
              have ri := read_inner x16 hx hlen c a b p hc.2 nxt (by omega) i (fun cd k hk hk2 => by
                rw [← hg]
                exact read_outer N hN x16 hx hlen n k (p ++ [⟨a, b, cd⟩]) hk2 (by omega) (by simp only [List.length_append, List.length_singleton]; omega)) j i N [] (by omega) (by omega) (by omega) (by simp; omega)
              have ri' : again (wandererref_CodeRead_b121 c x16 p a b nxt) N ((i : Int), 0, []) = _ := ri
              rw [ri', hj]
          · rw [dF hc, Bool.not_false, cond_true]
            unfold wandererref_CodeRead_j113 stepL
            rw [if_pos rfl]
            simp only
            rw [if_pos (by omega), cond_true]
            rfl
        · rw [dT (by omega), cond_true, stepL_three h3]
          unfold wandererref_CodeRead_j113
          rfl
    · rw [dF (by omega), cond_false, List.drop_eq_nil_of_le (by omega)]
      show _ = some (fin (p, 0))
      unfold fin
      simp only
      rw [chk_eq2, bnd, if_neg (by omega)]
      by_cases h3 : chk p = 0
      · rw [dF (by omega), cond_false, if_neg (by omega)]
      · rw [dT h3, cond_true, if_pos h3]
theorem read_eq (N : Nat) (hN : 60003 ≤ N) (s : Str) (h : s.length ≤ 60000) : wandererref_CodeRead N s = some (parseL (splitC 10 s) ([], 0)) := by
  have h1 := splitC_len 10 s
  have hm := splitC_mem 10 s
  unfold wandererref_CodeRead parseL
  rw [splitS_eq 10 (by omega), bnd]
  have hne := splitC_ne 10 s
  generalize splitC 10 s = ws at h1 hm hne ⊢
  obtain ⟨q, x, rfl⟩ : ∃ q x, ws = q ++ [x] := ⟨ws.dropLast, ws.getLast hne, (List.dropLast_concat_getLast hne).symm⟩
  have hq : q.length ≤ 60000 := by simp only [List.length_append, List.length_singleton] at h1; omega
  rw [gI (by simp only [List.length_append, List.length_singleton]; omega) (by simp only [List.length_append, List.length_singleton]; omega), show (((q ++ [x]).length : Int) - 1) = (q.length : Int) by simp, show idx (q ++ [x]) (q.length : Int) = some x by rw [idx_nat]; simp, bnd]
  have e0 : sub? (q ++ [x]) 0 (q.length : Int) = some q := by
    have := sub_s (l := q ++ [x]) (a := 0) (b := q.length) (by omega) (by simp)
    rw [show (0 : Int) = ((0 : Nat) : Int) from rfl, this]; simp
  rw [List.getLast?_append, List.getLast?_singleton, Option.some_or, List.dropLast_concat]
  match x with
  | c :: r => rfl
  | [] =>
    rw [dF (by simp), cond_false, gI (by omega) (by omega), e0, bnd]
    have := read_outer N (by omega) q (fun w hw => Nat.le_trans (hm w (by simp [hw])).1 h) (by omega) N 0 [] (by omega) (by omega) (by simp)
    simpa using this
/-! The law's closed fact, and the laws. -/
def oneP : List Proc := [⟨0, 1, [⟨8, 0, 0, 0, []⟩]⟩]
theorem one_chk : chk oneP = 0 := by decide
theorem one_w : ∀ x ∈ oneP, ProcW x := by
  intro x hx
  simp only [oneP, List.mem_singleton] at hx
  subst hx
  refine ⟨by decide, by decide, fun c hc => ?_⟩
  simp only [List.mem_singleton] at hc
  subst hc
  exact ⟨by decide, by decide, by decide, by decide, by intro x hx; cases hx⟩
theorem itoa_small {k : Nat} (h : k < 10) : Lib.itoa (k : Int) = [UInt8.ofNat (48 + k)] := by
  unfold Lib.itoa
  rw [if_neg (by omega), Int.toNat_natCast, Lib.decDigits_one h]
theorem one_text : progText oneP = [48, 32, 49, 32, 49, 10, 56, 32, 48, 32, 48, 32, 48, 10] := by
  have h1 := itoa_small (k := 1) (by decide)
  have h0 := itoa_small (k := 0) (by decide)
  have h8 := itoa_small (k := 8) (by decide)
  show linesT [[((0 : Nat) : Int), ((1 : Nat) : Int), ((1 : Nat) : Int)], [((8 : Nat) : Int), ((0 : Nat) : Int), ((0 : Nat) : Int), ((0 : Nat) : Int)]] = _
  unfold linesT
  simp only [List.map_cons, List.map_nil, lineT_cons, h1, h0, h8]
  decide
theorem img_of {p : List Proc} (h : chk p = 0) (w : ∀ x ∈ p, ProcW x) (hl : (progText p).length ≤ 60000) : imgParse (progText p) = (p, 0) := by
  unfold imgParse
  rw [if_neg (by omega), parse_read, imgRead_text (fun x hx => ⟨w x hx, ((chk_good h).2 x hx).1⟩)]
  simp only
  rw [if_neg (by omega)]
theorem printed_ok (N : Nat) (hN : 60002 ≤ N) : wandererlaw_printed N = some true := by
  unfold wandererlaw_printed
  show (image_Print oneP).bind _ = _
  rw [print_eq oneP one_w, bnd, if_pos one_chk]
  simp only
  rw [parse_eq N hN, bnd, img_of one_chk one_w (by rw [one_text]; decide), one_text]
  simp only [decide_true, Bool.and_self, cond_true]
  show (code_Same oneP oneP).bind _ = _
  rw [code_same, bnd, dT rfl]
theorem imageSays (a : List Proc) (b : Str) (w : ∀ x ∈ a, ProcW x) : ∃ N, wandererlaw_ImageSays N a b = some true := by
  refine ⟨60003, ?_⟩
  unfold wandererlaw_ImageSays
  rw [print_eq a w, bnd, parse_eq 60003 (by decide), bnd, chk_eq2, bnd]
  have key : wandererlaw_ImageSays_j1 60003 (if chk a = 0 then (progText a, 0) else ([], chk a)) (chk a) b (imgParse b) (if chk a = 0 then progText a else []) = some true := by
    unfold wandererlaw_ImageSays_j1
    rw [printed_ok 60003 (by decide), bnd]
    have e : ((!true) || decide ((if chk a = 0 then ((progText a, 0) : Str × Int) else ([], chk a)).2 ≠ chk a) || decide ((if chk a = 0 then ((progText a, 0) : Str × Int) else ([], chk a)).1 ≠ (if chk a = 0 then progText a else []))) = false := by
      by_cases h : chk a = 0 <;> simp [h]
    rw [e, cond_false]
    unfold imgParse
    by_cases hl : 60000 < b.length
    · rw [dT (by omega), cond_true, if_pos hl]; rfl
    · rw [dF (by omega), cond_false, if_neg hl, read_eq 60003 (by decide) b (by omega), bnd, dT rfl, cond_true, ref_same, bnd, dT rfl]
  by_cases h : chk a = 0
  · rw [dT h, cond_true, text_eq a w h, bnd]
    rw [if_pos h, if_pos h] at key
    rw [if_pos h]
    exact key
  · rw [dF h, cond_false]
    rw [if_neg h, if_neg h] at key
    rw [if_neg h]
    exact key
theorem parse_cases (b : Str) : (∃ p, imgParse b = (p, 0) ∧ image_Print p = some (b, 0)) ∨ (imgParse b).2 ≠ 0 := by
  unfold imgParse
  by_cases hl : 60000 < b.length
  · rw [if_pos hl]; exact .inr (by decide)
  · rw [if_neg hl, parse_read]
    cases e : imgRead b with
    | none => exact .inr (by decide)
    | some p =>
      simp only
      by_cases h : chk p = 0
      · rw [if_neg (by omega)]
        obtain ⟨h1, h2⟩ := imgRead_some e
        exact .inl ⟨p, rfl, by rw [print_eq p h2, if_pos h, ← h1]⟩
      · rw [if_pos h]
        exact .inr h
theorem back_j2 (N : Nat) (hN : 60002 ≤ N) (b : Str) : wandererlaw_ImageBack_j2 N b = some true := by
  unfold wandererlaw_ImageBack_j2
  rw [parse_eq N hN, bnd, printed_ok N hN, bnd]
  rcases parse_cases b with ⟨p, h1, h2⟩ | h
  · rw [h1]
    simp only
    rw [h2, bnd]
    simp
  · rw [dT h]
    rfl
theorem imageBack (a : List Proc) (b : Str) (w : ∀ x ∈ a, ProcW x) : ∃ N, wandererlaw_ImageBack N a b = some true := by
  refine ⟨60003, ?_⟩
  unfold wandererlaw_ImageBack
  rw [print_eq a w, bnd]
  by_cases h : chk a = 0
  · rw [if_pos h]
    simp only
    by_cases hl : (progText a).length ≤ 60000
    · simp only [decide_true, Bool.true_and]
      rw [dT (by omega), cond_true, parse_eq 60003 (by decide), bnd, img_of h w hl]
      simp only
      rw [dF (by simp), cond_false, code_same, bnd, dT rfl]
      unfold wandererlaw_ImageBack_j3
      exact back_j2 _ (by decide) b
    · rw [dF (show ¬ (((progText a).length : Int) : Int) ≤ 60000 by omega), Bool.and_false, cond_false]
      exact back_j2 _ (by decide) b
  · rw [if_neg h]
    simp only
    rw [dF h, Bool.false_and, cond_false]
    exact back_j2 _ (by decide) b
end Go.Proofs.YtckocfgmnlhcmaaDoor
