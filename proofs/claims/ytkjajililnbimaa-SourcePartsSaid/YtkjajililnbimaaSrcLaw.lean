/-
  Plain laws.
-/
import Derived.Test.YtkjajililnbimaaSrc
set_option linter.unusedSimpArgs false
set_option linter.unusedVariables false
namespace Go.Proofs.Ytkjajililnbimaa
open Go Go.Proofs Go.LX
theorem tok_eq (a : Tok) (b : List Fun) (c : Int) : ∃ n e, source_tok a b c = some (n, e) ∧ wandererref_CheckTok a b c = e ∧ (e = 0 → wandererref_asks a b = some n ∧ (n = 0 ∨ n = 1 ∨ n = 2 ∨ ∃ x ∈ b, n = x.params)) := by
  unfold source_tok wandererref_CheckTok wandererref_asks source_tok_j1 wandererref_CheckTok_j1 wandererref_fits wandererref_in wandererref_below
  by_cases h1 : a.kind = 1
  · simp only [h1]
    cases h : (decide ((-1000000000 : Int) ≤ a.n) && decide ((a.n : Int) ≤ 1000000000)) with
    | true => exact ⟨0, 0, rfl, rfl, fun _ => ⟨rfl, by simp⟩⟩
    | false => exact ⟨0, 3, rfl, rfl, fun h => absurd h (by decide)⟩
  by_cases h2 : a.kind = 2
  · simp only [h2]
    cases h : (decide ((0 : Int) ≤ a.n) && decide ((a.n : Int) < c)) with
    | true => exact ⟨0, 0, rfl, rfl, fun _ => ⟨rfl, by simp⟩⟩
    | false => exact ⟨0, 3, rfl, rfl, fun h => absurd h (by decide)⟩
  by_cases h3 : a.kind = 3
  · simp only [h3]
    cases h : (decide ((1 : Int) ≤ a.n) && decide ((a.n : Int) ≤ 5)) with
    | true => exact ⟨2, 0, rfl, rfl, fun _ => ⟨rfl, by simp⟩⟩
    | false => exact ⟨0, 3, rfl, rfl, fun h => absurd h (by decide)⟩
  by_cases h4 : a.kind = 4
  · simp only [h4]
    rw [show decide ((a.n : Int) ≤ 3) = decide (a.n < 4) by rw [decide_eq_decide]; omega]
    cases h : (decide ((0 : Int) ≤ a.n) && decide ((a.n : Int) < 4)) with
    | true => exact ⟨1, 0, rfl, rfl, fun _ => ⟨rfl, by simp⟩⟩
    | false => exact ⟨0, 3, rfl, rfl, fun h => absurd h (by decide)⟩
  by_cases h5 : a.kind = 5
  · simp only [h5]
    cases h : (decide ((1 : Int) ≤ a.n) && decide ((a.n : Int) ≤ 4)) with
    | true => exact ⟨0, 0, rfl, rfl, fun _ => ⟨rfl, by simp⟩⟩
    | false => exact ⟨0, 3, rfl, rfl, fun h => absurd h (by decide)⟩
  by_cases h6 : a.kind = 6
  · simp only [h6]
    by_cases h : (0 : Int) ≤ a.n ∧ a.n < b.length
    · obtain ⟨n, hn⟩ := Int.eq_ofNat_of_zero_le h.1
      have hl : n < b.length := by omega
      have hx : idx b a.n = some b[n] := by rw [hn]; exact idx_lt hl
      refine ⟨b[n].params, 0, ?_, by simp [h], fun _ => ⟨by simp [hx], .inr (.inr (.inr ⟨_, List.getElem_mem hl, rfl⟩))⟩⟩
      have e1 : ¬ a.n < 0 := by omega
      have e2 : ¬ (b.length : Int) ≤ a.n := by omega
      simp [e1, e2, hx]
    · refine ⟨0, 5, ?_, ?_, by simp⟩
      · have : a.n < 0 ∨ (b.length : Int) ≤ a.n := by omega
        rcases this with h | h <;> simp [h]
      · have : a.n < 0 ∨ (b.length : Int) ≤ a.n := by omega
        rcases this with h | h
        · have : ¬ (0 : Int) ≤ a.n := by omega
          simp [this]
        · have : ¬ a.n < (b.length : Int) := by omega
          simp [this]
  exact ⟨0, 4, by simp [h1, h2, h3, h4, h5, h6], by simp [h1, h2, h3, h4, h5, h6], by simp⟩

theorem maxL (l : List Int) (hl : l.length ≤ 1000) : ∀ (k i N : Nat) (m : Int), i + k = l.length → k < N → again (slices_Max_int_b2 l) N (m, (i : Int)) = some ((l.drop i).foldl max m)
  | 0, i, N + 1, m, h, _ => by
    rw [List.drop_eq_nil_of_le (by omega)]
    show slices_Max_int_b2 l (m, (i : Int)) _ = _
    unfold slices_Max_int_b2
    simp only
    rw [decide_eq_false (by omega)]
    rfl
  | k + 1, i, N + 1, m, h, hN => by
    have hi : i < l.length := by omega
    have key := fun m' => maxL l hl k (i + 1) N m' (by omega) (by omega)
    show slices_Max_int_b2 l (m, (i : Int)) (again (slices_Max_int_b2 l) N) = _
    generalize again (slices_Max_int_b2 l) N = nx at key ⊢
    unfold slices_Max_int_b2
    simp only
    rw [decide_eq_true (by omega), idx_lt hi]
    simp only [cond_true, bnd]
    rw [gI, show ((i : Int) + 1) = ((i + 1 : Nat) : Int) from rfl, key, List.drop_eq_getElem_cons hi]
    rfl
theorem foldl_max_pos : ∀ (l : List Int) (m : Int), 0 < l.foldl max m ↔ 0 < m ∨ ∃ x ∈ l, 0 < x
  | [], m => by simp
  | x :: r, m => by
    rw [List.foldl_cons, foldl_max_pos r]
    simp only [List.mem_cons, exists_eq_or_imp]
    have : 0 < max m x ↔ 0 < m ∨ 0 < x := by omega
    rw [this, or_assoc]
theorem sum_zero : ∀ (l : List Int), (∀ x ∈ l, 0 ≤ x) → 0 ≤ l.sum ∧ (0 < l.sum ↔ ∃ x ∈ l, 0 < x)
  | [], _ => by simp
  | x :: r, h => by
    have h1 := sum_zero r (fun y hy => h y (List.mem_cons_of_mem _ hy))
    have h2 := h x (List.mem_cons_self)
    simp only [List.sum_cons, List.mem_cons, exists_eq_or_imp, ← h1.2]
    omega
/-- What is open still, once what wants nothing more is struck. -/
theorem pop (x : Tok) (b : List Fun) (nx : List Int → Option Int) (i : Int) (hi : 0 < i) : ∀ (k : Nat) (o : List Int) (N : Nat), o.length = k → k < N → k ≤ 1000 → (∀ y ∈ o, 0 ≤ y ∧ y ≤ 3) →
    (o.sum = 0 ∧ again (wandererref_CheckExpr_b132 i x b nx) N o = some 4) ∨ (∃ p q, (∀ y ∈ p, 0 ≤ y ∧ y ≤ 3) ∧ 0 < q ∧ q ≤ 3 ∧ p.sum + q = o.sum ∧ p.length + 1 ≤ o.length ∧ again (wandererref_CheckExpr_b132 i x b nx) N o = wandererref_CheckExpr_j131 x b nx (p ++ [q - 1]))
  | 0, o, N + 1, h, hN, hk, ho => by
    obtain rfl := List.eq_nil_of_length_eq_zero h
    refine .inl ⟨rfl, ?_⟩
    show wandererref_CheckExpr_b132 i x b nx [] _ = _
    unfold wandererref_CheckExpr_b132 wandererref_CheckExpr_j130
    simp [hi]
  | k + 1, o, N + 1, h, hN, hk, ho => by
    obtain ⟨p, q, rfl⟩ : ∃ p q, o = p ++ [q] := ⟨o.dropLast, o.getLast (by intro e; simp [e] at h), (List.dropLast_concat_getLast _).symm⟩
    have hl : p.length = k := by simpa using h
    have hp : ∀ y ∈ p, 0 ≤ y ∧ y ≤ 3 := fun y hy => ho y (by simp [hy])
    have hq := ho q (by simp)
    have e1 : (((p ++ [q]).length : Int)) - 1 = (p.length : Int) := by simp
    have e2 : idx (p ++ [q]) (p.length : Int) = some q := by rw [idx_lt (by simp)]; simp
    show (_ ∧ wandererref_CheckExpr_b132 i x b nx (p ++ [q]) _ = _) ∨ (∃ p' q', _ ∧ _ ∧ _ ∧ _ ∧ _ ∧ wandererref_CheckExpr_b132 i x b nx (p ++ [q]) _ = _)
    unfold wandererref_CheckExpr_b132 wandererref_CheckExpr_j130
    rw [decide_eq_true (show (0 : Int) < ((p ++ [q]).length : Int) by simp), e1, e2, gI]
    simp only [cond_true, bnd]
    by_cases hz : q = 0
    · subst hz
      rw [decide_eq_true rfl]
      simp only [cond_true]
      rw [gI, show sub? (p ++ [0]) 0 (p.length : Int) = some (((p ++ [0]).take p.length).drop 0) from sub_s (Nat.zero_le _) (by simp)]
      simp only [bnd, Int.toNat_natCast, List.take_left]
      rcases pop x b nx i hi k p N hl (by omega) (by omega) hp with ⟨h1, h2⟩ | ⟨p', q', h1, h2, h3, h4, h5, h6⟩
      · exact .inl ⟨by simp [h1], h2⟩
      · exact .inr ⟨p', q', h1, h2, h3, by simp [h4], by simp; omega, h6⟩
    · refine .inr ⟨p, q, hp, by omega, by omega, by simp, by simp, ?_⟩
      rw [decide_eq_false hz]
      simp only [cond_false]
      rw [decide_eq_true hi, decide_eq_false (show ¬ (((p ++ [q]).length : Int) = 0) by simp; omega)]
      simp only [Bool.and_false, cond_false, cond_true]
      rw [gI, gI]
      simp only [Int.toNat_natCast]
      congr 1
      simp

def okP (b : List Fun) : Bool := b.all fun x => decide (0 ≤ x.params) && decide (x.params ≤ 3)
theorem expr1 (a : List Tok) (b : List Fun) (c : Int) : source_Expr a b c = if 24 < a.length then some 2 else if okP b then each (source_Expr_b29 b c) source_Expr_k30 a 1 else some 3 := by
  unfold source_Expr
  by_cases h : 24 < a.length
  · rw [dT (by omega), if_pos h]; rfl
  · rw [dF (by omega), if_neg h]
    simp only [cond_false, Int.toNat_natCast]
    rw [upto_eachI (g := fun i x s nx => bif (decide ((x.params : Int) < 0) || decide ((3 : Int) < x.params)) then source_Expr_j26 b c a (decide ((0 : Int) ≤ i)) else nx ()) b (fun i x s nx hx => by unfold source_Expr_b37; rw [idx_nat, hx]; rfl)]
    rw [eachI_each0 (g := fun x s nx => bif (decide ((x.params : Int) < 0) || decide ((3 : Int) < x.params)) then some 3 else nx ()) (fun i x s nx => by rw [show decide ((0 : Int) ≤ (i : Int)) = true from dT (by omega)]; rfl)]
    have key : ∀ l : List Fun, each (fun x s nx => bif (decide ((x.params : Int) < 0) || decide ((3 : Int) < x.params)) then some 3 else nx ()) (source_Expr_k38 b c a) l () = if okP l then each (source_Expr_b29 b c) source_Expr_k30 a 1 else some 3 := by
      intro l
      induction l with
      | nil => rfl
      | cons x r ih =>
        rw [each_cons, ih]
        by_cases hx : 0 ≤ x.params ∧ x.params ≤ 3
        · rw [dF (show ¬ x.params < 0 by omega), dF (show ¬ 3 < x.params by omega)]
          simp [okP, hx.1, hx.2]
        · have : (decide (x.params < 0) || decide (3 < x.params)) = true := by simp; omega
          rw [this]
          have h2 : okP (x :: r) = false := by simp [okP]; intro h3 h4; omega
          rw [h2]; rfl
    exact key b
theorem expr2 (N : Nat) (a : List Tok) (b : List Fun) (c : Int) : wandererref_CheckExpr N a b c = if 24 < a.length then some 2 else if okP b then eachI (wandererref_CheckExpr_b135 N b c) (wandererref_CheckExpr_k136 N a) 0 a [] else some 3 := by
  unfold wandererref_CheckExpr
  by_cases h : 24 < a.length
  · rw [dT (by omega), if_pos h]; rfl
  · rw [dF (by omega), if_neg h]
    simp only [cond_false]
    have key : ∀ l : List Fun, each wandererref_CheckExpr_b137 (wandererref_CheckExpr_k138 N b c a) l () = if okP l then eachI (wandererref_CheckExpr_b135 N b c) (wandererref_CheckExpr_k136 N a) 0 a [] else some 3 := by
      intro l
      induction l with
      | nil => rfl
      | cons x r ih =>
        rw [each_cons]
        generalize each wandererref_CheckExpr_b137 (wandererref_CheckExpr_k138 N b c a) r = nx at ih ⊢
        unfold wandererref_CheckExpr_b137 wandererref_in
        rw [ih]
        by_cases hx : 0 ≤ x.params ∧ x.params ≤ 3
        · simp [okP, hx.1, hx.2]
        · have : (!(decide (0 ≤ x.params) && decide (x.params ≤ 3))) = true := by simp; omega
          rw [this]
          have h2 : okP (x :: r) = false := by simp [okP]; intro h3 h4; omega
          rw [h2]; rfl
    exact key b
theorem exprLoop (b : List Fun) (c : Int) (hb : okP b = true) (N : Nat) (hN : 100 ≤ N) (a : List Tok) (ha : a.length ≤ 24) : ∀ (l : List Tok) (i : Nat) (w : Int) (o : List Int), i + l.length = a.length → (∀ y ∈ o, 0 ≤ y ∧ y ≤ 3) → o.length ≤ i → w ≤ 1 + 3 * i → ((i = 0 ∧ w = 1 ∧ o = []) ∨ (0 < i ∧ o.sum = w)) →
    ∃ r, each (source_Expr_b29 b c) source_Expr_k30 l w = some r ∧ eachI (wandererref_CheckExpr_b135 N b c) (wandererref_CheckExpr_k136 N a) (i : Int) l o = some r
  | [], i, w, o, h, ho, hoi, hw, hr => by
    show ∃ r, source_Expr_k30 w = some r ∧ wandererref_CheckExpr_k136 N a o = some r
    unfold source_Expr_k30 wandererref_CheckExpr_k136
    simp only [List.length_nil] at h
    rcases hr with ⟨h1, rfl, rfl⟩ | ⟨h1, h2⟩
    · rw [dT (show (a.length : Int) = 0 by omega)]; exact ⟨4, rfl, rfl⟩
    · rw [dF (show ¬ (a.length : Int) = 0 by omega)]
      simp only [cond_false]
      rw [grd_t (Room.mk (by simp; omega) (by simp; omega))]
      unfold slices_Max_int
      rw [dF (show ¬ ((([0] ++ o : List Int).length : Int) < 1) by simp; omega), show idx ([0] ++ o) 0 = some 0 from rfl]
      simp only [cond_false, bnd]
      have := maxL ([0] ++ o) (by simp; omega) ([0] ++ o).length.pred 1 N 0 (by simp; omega) (by simp; omega)
      rw [show ((1 : Nat) : Int) = 1 from rfl] at this
      rw [this]
      show ∃ r, _ ∧ wandererref_CheckExpr_j134 _ = _
      unfold wandererref_CheckExpr_j134
      have e : decide ((0 : Int) < w) = decide (0 < (([0] ++ o).drop 1).foldl max 0) := by
        rw [decide_eq_decide, foldl_max_pos, ← h2, (sum_zero o (fun y hy => (ho y hy).1)).2]
        simp
      rw [e]
      cases decide (0 < (([0] ++ o).drop 1).foldl max 0)
      · exact ⟨0, rfl, rfl⟩
      · exact ⟨4, rfl, rfl⟩
  | x :: r, i, w, o, h, ho, hoi, hw, hr => by
    simp only [List.length_cons] at h
    rw [each_cons, eachI_cons]
    have ih := exprLoop b c hb N hN a ha r (i + 1)
    rw [show (((i + 1 : Nat)) : Int) = (i : Int) + 1 from rfl] at ih
    generalize each (source_Expr_b29 b c) source_Expr_k30 r = nx1 at ih ⊢
    generalize eachI (wandererref_CheckExpr_b135 N b c) (wandererref_CheckExpr_k136 N a) ((i : Int) + 1) r = nx2 at ih ⊢
    unfold source_Expr_b29 wandererref_CheckExpr_b135
    obtain ⟨n, e, h1, h2, h3⟩ := tok_eq x b c
    rw [h1, h2]
    simp only [bnd]
    by_cases he : e = 0
    · subst he
      obtain ⟨h4, h5⟩ := h3 rfl
      have hn : 0 ≤ n ∧ n ≤ 3 := by
        rcases h5 with rfl | rfl | rfl | ⟨y, hy, rfl⟩
        · omega
        · omega
        · omega
        · have := List.all_eq_true.1 hb y hy
          simpa using this
      rw [show decide ((0 : Int) ≠ 0) = false from rfl]
      simp only [cond_false]
      rcases hr with ⟨hi, rfl, rfl⟩ | ⟨hi, hs⟩
      · rw [show decide ((1 : Int) = 0) = false from rfl]
        simp only [cond_false]
        rw [gI, gI]
        obtain ⟨M, rfl⟩ : ∃ M, N = M + 1 := ⟨N - 1, by omega⟩
        show ∃ r, _ ∧ wandererref_CheckExpr_b132 (i : Int) x b nx2 [] (again (wandererref_CheckExpr_b132 (i : Int) x b nx2) M) = _
        generalize again (wandererref_CheckExpr_b132 (i : Int) x b nx2) M = nx3
        unfold wandererref_CheckExpr_b132 wandererref_CheckExpr_j130 wandererref_CheckExpr_j131
        subst hi
        rw [h4]
        simp only [List.length_nil, Int.natCast_zero, show decide ((0 : Int) < 0) = false from rfl, cond_false, bnd, Bool.false_and]
        rw [grd_t (Room.mk (by simp) (by simp))]
        exact ih _ _ (by omega) (by simp; omega) (by simp) (by omega) (.inr ⟨by omega, by simp; omega⟩)
      · rcases pop x b nx2 (i : Int) (by omega) o.length o N rfl (by omega) (by omega) ho with ⟨g1, g2⟩ | ⟨p, q, g1, g2, g3, g4, g5, g6⟩
        · rw [g2, dT (show w = 0 by omega)]; exact ⟨4, rfl, rfl⟩
        · have hp := (sum_zero p (fun y hy => (g1 y hy).1)).1
          rw [g6, dF (show ¬ w = 0 by omega)]
          simp only [cond_false]
          rw [gI, gI]
          unfold wandererref_CheckExpr_j131
          rw [h4]
          simp only [bnd]
          rw [grd_t (Room.mk (by simp; omega) (by simp; omega))]
          refine ih _ _ (by omega) ?_ (by simp; omega) (by omega) (.inr ⟨by omega, by simp; omega⟩)
          intro y hy
          simp only [List.mem_append, List.mem_singleton] at hy
          rcases hy with (hy | rfl) | rfl
          · exact g1 y hy
          · omega
          · exact hn
    · rw [show decide (e ≠ 0) = true from dT he]
      exact ⟨e, rfl, rfl⟩
theorem exprEq (a : List Tok) (b : List Fun) (c : Int) (N : Nat) (hN : 100 ≤ N) : ∃ r, source_Expr a b c = some r ∧ wandererref_CheckExpr N a b c = some r := by
  rw [expr1, expr2]
  by_cases h : 24 < a.length
  · rw [if_pos h, if_pos h]; exact ⟨_, rfl, rfl⟩
  · rw [if_neg h, if_neg h]
    cases hb : okP b with
    | false => exact ⟨3, rfl, rfl⟩
    | true => exact exprLoop b c hb N hN a (by omega) a 0 1 [] (by omega) (by simp) (by simp) (by omega) (.inl ⟨rfl, rfl, rfl⟩)
end Go.Proofs.Ytkjajililnbimaa

namespace Go.Proofs.Ytkjajililnbimaa
open Go Go.Proofs Go.LX
theorem neB (x : Bool) : (decide ((if x = true then (1 : Int) else 0) ≠ 0)) = x := by cases x <;> rfl
abbrev tabS : List (Int × Str) := [(1, [78, 69]), (2, [78, 69, 70]), (3, [69]), (4, []), (5, [69]), (6, [69, 65, 66]), (7, [69, 65]), (8, [69])]
def stR (x : GStmt) (c e1 f1 : Int) (n e f a b : Bool) : Int :=
  bif ((((((!n) && decide ((x.n : Int) ≠ 0)) || ((!e) && decide ((0 : Int) < (x.e.length : Int)))) || ((!f) && decide ((0 : Int) < (x.f.length : Int)))) || ((!a) && decide ((0 : Int) < (x.a.length : Int)))) || ((!b) && decide ((0 : Int) < (x.b.length : Int)))) then 4 else
  bif ((decide ((x.kind : Int) = 1) && (decide ((x.n : Int) < 0) || decide ((c : Int) ≤ x.n))) || (decide ((x.kind : Int) = 2) && (decide ((x.n : Int) < 0) || decide ((4 : Int) ≤ x.n)))) then 3 else
  bif e then (bif decide (e1 ≠ 0) then e1 else bif f then f1 else 0) else bif f then f1 else 0
theorem comb : ∀ (n e f a b n0 n1 n2 n3 n4 : Bool), ((((((!true) || (n0 && (!n))) || (n1 && (!e))) || (n2 && (!f))) || (n3 && (!a))) || (n4 && (!b))) = ((((((!n) && n0) || ((!e) && n1)) || ((!f) && n2)) || ((!a) && n3)) || ((!b) && n4)) := by
  intro n e f a b n0 n1 n2 n3 n4
  simp [Bool.and_comm]
theorem docStmt (x : GStmt) (b : List Fun) (c e1 f1 : Int) (N : Nat) (he : wandererref_CheckExpr N x.e b c = some e1) (hf : wandererref_CheckExpr N x.f b c = some f1) {L : Str} (hL : lk x.kind tabS = some L) {n e f a' b' : Bool}
    (h1 : hasB L 78 = n) (h2 : hasB L 69 = e) (h3 : hasB L 70 = f) (h4 : hasB L 65 = a') (h5 : hasB L 66 = b') (F0 : List GStmt → List Fun → Int → Option Int) (a : List GStmt) (nx : Unit → Option Int) :
    wandererref_checkStmts_b35 N F0 a b c x () nx = bif decide (stR x c e1 f1 n e f a' b' ≠ 0) then some (stR x c e1 f1 n e f a' b') else (F0 x.a b c).bind fun y => bif decide (y ≠ 0) then some y else (F0 x.b b c).bind fun z => bif decide (z ≠ 0) then some z else nx () := by
  have t2 : ∀ (y : Int), wandererref_checkStmts_j33 F0 x b c nx y = bif decide (y ≠ 0) then some y else (F0 x.b b c).bind fun z => bif decide (z ≠ 0) then some z else nx () := by
    intro y
    unfold wandererref_checkStmts_j33 wandererref_checkStmts_j34
    by_cases hy : y = 0
    · subst hy; rfl
    · rw [dF hy, dT hy]; rfl
  have t1 : ∀ (y : Int), wandererref_checkStmts_j32 F0 x a b c nx y = bif decide (y ≠ 0) then some y else (F0 x.a b c).bind fun y => bif decide (y ≠ 0) then some y else (F0 x.b b c).bind fun z => bif decide (z ≠ 0) then some z else nx () := by
    intro y
    unfold wandererref_checkStmts_j32
    simp only [t2]
    by_cases hy : y = 0
    · subst hy; rfl
    · rw [dF hy, dT hy]; rfl
  have t0 : ∀ (y : Int), wandererref_checkStmts_j31 N F0 x b c a nx y = wandererref_checkStmts_j32 F0 x a b c nx (bif (decide (y = 0) && f) then f1 else y) := by
    intro y
    unfold wandererref_checkStmts_j31 wandererref_checkStmts_1_70
    rw [show (lk x.kind [(1, [78, 69]), (2, [78, 69, 70]), (3, [69]), (4, []), (5, [69]), (6, [69, 65, 66]), (7, [69, 65]), (8, [69])]) = some L from hL, Option.getD_some, h3, hf]
    cases (decide (y = 0) && f) <;> rfl
  have inEq : wandererref_below x.n c = (!(decide (x.n < 0) || decide (c ≤ x.n))) := by
    unfold wandererref_below; rw [Bool.eq_iff_iff]; simp
  have inEq2 : wandererref_in x.n 0 3 = (!(decide (x.n < 0) || decide (4 ≤ x.n))) := by
    unfold wandererref_in; rw [Bool.eq_iff_iff]; simp; omega
  unfold wandererref_checkStmts_b35 wandererref_checkStmts_1_78 wandererref_checkStmts_1_69 wandererref_checkStmts_1_70 wandererref_checkStmts_1_65 wandererref_checkStmts_1_66
  rw [show (lk x.kind [(1, [78, 69]), (2, [78, 69, 70]), (3, [69]), (4, []), (5, [69]), (6, [69, 65, 66]), (7, [69, 65]), (8, [69])]) = some L from hL]
  simp only [Option.getD_some, Option.isSome_some, h1, h2, h3, h4, h5, comb, inEq, inEq2, Bool.not_not]
  unfold stR
  generalize ((((((!n) && decide ((x.n : Int) ≠ 0)) || ((!e) && decide ((0 : Int) < (x.e.length : Int)))) || ((!f) && decide ((0 : Int) < (x.f.length : Int)))) || ((!a') && decide ((0 : Int) < (x.a.length : Int)))) || ((!b') && decide ((0 : Int) < (x.b.length : Int)))) = C1
  generalize ((decide ((x.kind : Int) = 1) && (decide ((x.n : Int) < 0) || decide ((c : Int) ≤ x.n))) || (decide ((x.kind : Int) = 2) && (decide ((x.n : Int) < 0) || decide ((4 : Int) ≤ x.n)))) = C2
  cases C1 with
  | true => rfl
  | false =>
  cases C2 with
  | true => rfl
  | false =>
  simp only [cond_false, he, bnd, t0, t1]
  cases e with
  | true =>
    by_cases hy : e1 = 0
    · subst hy; cases f <;> rfl
    · simp only [cond_true, dF hy, dT hy, Bool.false_and, cond_false]
  | false => cases f <;> rfl
def StOk (x : GStmt) (b : List Fun) (c : Int) (N : Nat) : Prop := ∃ r, source_stmt x b c = some r ∧ ∀ (F0 : List GStmt → List Fun → Int → Option Int) (a : List GStmt) (nx : Unit → Option Int), wandererref_checkStmts_b35 N F0 a b c x () nx =
    bif decide (r ≠ 0) then some r else (F0 x.a b c).bind fun y => bif decide (y ≠ 0) then some y else (F0 x.b b c).bind fun z => bif decide (z ≠ 0) then some z else nx ()
theorem stmtEq (x : GStmt) (b : List Fun) (c : Int) (N : Nat) (hN : 100 ≤ N) : StOk x b c N := by
  obtain ⟨e1, h1, h2⟩ := exprEq x.e b c N hN
  obtain ⟨f1, h3, h4⟩ := exprEq x.f b c N hN
  have hj : ∀ (n e f a' b' : Bool), source_stmt_j2 x b c n e f a' b' = some (stR x c e1 f1 n e f a' b') := by
    intro n e f a' b'
    unfold source_stmt_j2 source_stmt_j3 stR
    rw [h1, h3]
    generalize ((((((!n) && decide ((x.n : Int) ≠ 0)) || ((!e) && decide ((0 : Int) < (x.e.length : Int)))) || ((!f) && decide ((0 : Int) < (x.f.length : Int)))) || ((!a') && decide ((0 : Int) < (x.a.length : Int)))) || ((!b') && decide ((0 : Int) < (x.b.length : Int)))) = C1
    generalize ((decide ((x.kind : Int) = 1) && (decide ((x.n : Int) < 0) || decide ((c : Int) ≤ x.n))) || (decide ((x.kind : Int) = 2) && (decide ((x.n : Int) < 0) || decide ((4 : Int) ≤ x.n)))) = C2
    simp only [bnd]
    cases C1 with
    | true => rfl
    | false =>
    cases C2 with
    | true => rfl
    | false =>
    cases e with
    | true =>
      simp only [cond_false, cond_true]
      cases decide (e1 ≠ 0) <;> cases f <;> rfl
    | false => cases f <;> rfl
  have done : ∀ (L : Str) (n e f a' b' : Bool), lk x.kind tabS = some L → hasB L 78 = n → hasB L 69 = e → hasB L 70 = f → hasB L 65 = a' → hasB L 66 = b' → source_stmt x b c = source_stmt_j2 x b c n e f a' b' → StOk x b c N :=
    fun L n e f a' b' g0 g1 g2 g3 g4 g5 g6 => ⟨stR x c e1 f1 n e f a' b', g6.trans (hj n e f a' b'), docStmt x b c e1 f1 N h2 h4 g0 g1 g2 g3 g4 g5⟩
  by_cases k1 : x.kind = 1
  · exact done [78, 69] true true false false false (by rw [k1]; rfl) (by decide) (by decide) (by decide) (by decide) (by decide) (by unfold source_stmt; rw [k1]; rfl)
  by_cases k2 : x.kind = 2
  · exact done [78, 69, 70] true true true false false (by rw [k2]; rfl) (by decide) (by decide) (by decide) (by decide) (by decide) (by unfold source_stmt; rw [k2]; rfl)
  by_cases k3 : x.kind = 3
  · exact done [69] false true false false false (by rw [k3]; rfl) (by decide) (by decide) (by decide) (by decide) (by decide) (by unfold source_stmt source_stmt_j4; rw [k3]; rfl)
  by_cases k4 : x.kind = 4
  · exact done [] false false false false false (by rw [k4]; rfl) (by decide) (by decide) (by decide) (by decide) (by decide) (by unfold source_stmt source_stmt_j4; rw [k4]; rfl)
  by_cases k5 : x.kind = 5
  · exact done [69] false true false false false (by rw [k5]; rfl) (by decide) (by decide) (by decide) (by decide) (by decide) (by unfold source_stmt source_stmt_j4; rw [k5]; rfl)
  by_cases k6 : x.kind = 6
  · exact done [69, 65, 66] false true false true true (by rw [k6]; rfl) (by decide) (by decide) (by decide) (by decide) (by decide) (by unfold source_stmt source_stmt_j4; rw [k6]; rfl)
  by_cases k7 : x.kind = 7
  · exact done [69, 65] false true false true false (by rw [k7]; rfl) (by decide) (by decide) (by decide) (by decide) (by decide) (by unfold source_stmt source_stmt_j4; rw [k7]; rfl)
  by_cases k8 : x.kind = 8
  · exact done [69] false true false false false (by rw [k8]; rfl) (by decide) (by decide) (by decide) (by decide) (by decide) (by unfold source_stmt source_stmt_j4; rw [k8]; rfl)
  refine ⟨4, ?_, fun F0 a nx => ?_⟩
  · unfold source_stmt source_stmt_j4; rw [dF k1, dF k2, dF k3, dF k4, dF k5, dF k6, dF k7, dF k8]; rfl
  · unfold wandererref_checkStmts_b35
    rw [show lk x.kind ([(1, [78, 69]), (2, [78, 69, 70]), (3, [69]), (4, []), (5, [69]), (6, [69, 65, 66]), (7, [69, 65]), (8, [69])] : List (Int × Str)) = none by simp [lk, k1, k2, k3, k4, k5, k6, k7, k8]]
    rfl

theorem sz_a (x : GStmt) : SizeOf.sizeOf x.a < SizeOf.sizeOf x := by cases x; simp; omega
theorem sz_b (x : GStmt) : SizeOf.sizeOf x.b < SizeOf.sizeOf x := by cases x; simp; omega
theorem stmtsEq (b : List Fun) (c : Int) : ∀ (d : Nat) (l : List GStmt) (N : Nat), SizeOf.sizeOf l < d → d + 100 ≤ N → ∃ r, source_stmts N l b c = some r ∧ wandererref_checkStmts N l b c = some r
  | 0, _, _, h, _ => absurd h (Nat.not_lt_zero _)
  | d + 1, l, 0, h, hN => by omega
  | d + 1, l, N + 1, h, hN => by
    have ih := fun l' (h' : SizeOf.sizeOf l' < d) => stmtsEq b c d l' N h' (by omega)
    show ∃ r, source_stmts_r (source_stmts N) l b c = some r ∧ wandererref_checkStmts_r N (wandererref_checkStmts N) l b c = some r
    unfold source_stmts_r wandererref_checkStmts_r
    generalize hl0 : l = l0
    have : ∀ (k : List GStmt), SizeOf.sizeOf k ≤ d → ∃ r, each (source_stmts_b3 (source_stmts N) b c l0) source_stmts_k4 k () = some r ∧ each (wandererref_checkStmts_b35 N (wandererref_checkStmts N) l0 b c) wandererref_checkStmts_k36 k () = some r := by
      intro k
      induction k with
      | nil => intro _; exact ⟨0, rfl, rfl⟩
      | cons x k ihk =>
        intro hk
        simp at hk
        obtain ⟨r, h1, h2⟩ := ihk (by omega)
        have ha := sz_a x
        have hb := sz_b x
        obtain ⟨s, g1, g2⟩ := stmtEq x b c N (by omega)
        obtain ⟨u, g3, g4⟩ := ih x.a (by omega)
        obtain ⟨v, g5, g6⟩ := ih x.b (by omega)
        rw [each_cons, each_cons, g2]
        generalize each (source_stmts_b3 (source_stmts N) b c l0) source_stmts_k4 k = nx at h1 ⊢
        generalize each (wandererref_checkStmts_b35 N (wandererref_checkStmts N) l0 b c) wandererref_checkStmts_k36 k = nx2 at h2 ⊢
        unfold source_stmts_b3
        rw [g1, g3, g4, g5, g6]
        simp only [bnd]
        cases decide (s ≠ 0) with
        | true => exact ⟨s, rfl, rfl⟩
        | false =>
        cases decide (u ≠ 0) with
        | true => exact ⟨u, rfl, rfl⟩
        | false =>
        cases decide (v ≠ 0) with
        | true => exact ⟨v, rfl, rfl⟩
        | false => exact ⟨r, h1, h2⟩
    subst hl0
    exact this l (by omega)
-- how many statements
theorem countEq : ∀ (k : Nat) (l : List GStmt) (N : Nat), k < N → k ≤ 4 → ∃ r, source_count N l (5 - (k : Int)) = some r ∧ wandererref_sized N l (k : Int) = some r ∧ 0 ≤ r.1 ∧ r.1 ≤ 30
  | 0, l, N + 1, h, hk => ⟨(0, false), rfl, rfl, by decide, by decide⟩
  | k + 1, l, N + 1, h, hk => by
    have ih := fun l' => countEq k l' N (by omega) (by omega)
    show ∃ r, source_count_r (source_count N) l (5 - ((k + 1 : Nat) : Int)) = some r ∧ wandererref_sized_r (wandererref_sized N) l ((k + 1 : Nat) : Int) = some r ∧ _
    unfold source_count_r wandererref_sized_r
    rw [dF (by omega), dF (by omega)]
    simp only [cond_false]
    generalize hl0 : l = l0
    have : ∀ (m : List GStmt) (n : Int), 0 ≤ n → n ≤ 30 → ∃ r, each (source_count_b27 (source_count N) l0 (5 - ((k + 1 : Nat) : Int))) source_count_k28 m n = some r ∧ each (wandererref_sized_b123 (wandererref_sized N) l0 ((k + 1 : Nat) : Int)) wandererref_sized_k124 m n = some r ∧ 0 ≤ r.1 ∧ r.1 ≤ 30 := by
      intro m
      induction m with
      | nil => intro n h1 h2; exact ⟨(n, true), rfl, rfl, h1, h2⟩
      | cons x m ihm =>
        intro n h1 h2
        rw [each_cons, each_cons]
        generalize each (source_count_b27 (source_count N) l0 (5 - ((k + 1 : Nat) : Int))) source_count_k28 m = nx at ihm ⊢
        generalize each (wandererref_sized_b123 (wandererref_sized N) l0 ((k + 1 : Nat) : Int)) wandererref_sized_k124 m = nx2 at ihm ⊢
        obtain ⟨ra, a1, a2, a3, a4⟩ := ih x.a
        obtain ⟨rb, b1, b2, b3, b4⟩ := ih x.b
        have e1 : (5 - ((k + 1 : Nat) : Int)) + 1 = 5 - (k : Int) := by omega
        have e2 : ((k + 1 : Nat) : Int) - 1 = (k : Int) := by omega
        unfold source_count_b27 wandererref_sized_b123
        rw [gI (x := n + 1), gI (x := n + 1)]
        have hup : ∀ y, upto (wandererref_sized_b121 (wandererref_sized N) x l0 ((k + 1 : Nat) : Int)) (wandererref_sized_k122 nx2) 0 (([x.a, x.b].length : Int)).toNat y =
          wandererref_sized_b121 (wandererref_sized N) x l0 ((k + 1 : Nat) : Int) 0 y (wandererref_sized_b121 (wandererref_sized N) x l0 ((k + 1 : Nat) : Int) 1 · (wandererref_sized_k122 nx2)) := fun _ => rfl
        rw [hup]
        have hB : ∀ (i : Nat) (p : List GStmt) (rp : Int × Bool) y nx3, idx [x.a, x.b] (i : Int) = some p → wandererref_sized N p (k : Int) = some rp → 0 ≤ rp.1 → rp.1 ≤ 30 → 0 ≤ y → y ≤ 100 → wandererref_sized_b121 (wandererref_sized N) x l0 ((k + 1 : Nat) : Int) (i : Int) y nx3 =
            if p.length = 0 then nx3 y else bif ((!rp.2) || decide ((30 : Int) < y + rp.1)) then some (0, false) else nx3 (y + rp.1) := by
          intro i p rp y nx3 hi hp h3 h4 h5 h6
          unfold wandererref_sized_b121 wandererref_sized_j120
          rw [hi]
          simp only [bnd]
          by_cases h0 : p.length = 0
          · rw [dF (by omega), if_pos h0]; rfl
          · rw [dT (by omega), if_neg h0, gI, e2, hp]
            simp only [cond_true, bnd]
            rw [gI]
        have hB0 : ∀ y nx3, 0 ≤ y → y ≤ 100 → wandererref_sized_b121 (wandererref_sized N) x l0 ((k + 1 : Nat) : Int) 0 y nx3 = if x.a.length = 0 then nx3 y else bif ((!ra.2) || decide ((30 : Int) < y + ra.1)) then some (0, false) else nx3 (y + ra.1) :=
          fun y nx3 h5 h6 => hB 0 x.a ra y nx3 rfl a2 a3 a4 h5 h6
        rw [hB0 _ _ (by omega) (by omega)]
        have hB1 : ∀ y nx3, 0 ≤ y → y ≤ 100 → wandererref_sized_b121 (wandererref_sized N) x l0 ((k + 1 : Nat) : Int) 1 y nx3 = if x.b.length = 0 then nx3 y else bif ((!rb.2) || decide ((30 : Int) < y + rb.1)) then some (0, false) else nx3 (y + rb.1) :=
          fun y nx3 h5 h6 => hB 1 x.b rb y nx3 rfl b2 b3 b4 h5 h6
        have hA : ∀ y, 0 ≤ y → y ≤ 100 → source_count_j25 (source_count N) x (5 - ((k + 1 : Nat) : Int)) nx y = if x.b.length = 0 then nx y else bif ((!rb.2) || decide ((30 : Int) < y + rb.1)) then some (0, false) else nx (y + rb.1) := by
          intro y h3 h4
          unfold source_count_j25 source_count_j26
          by_cases h0 : x.b.length = 0
          · rw [dT (by omega), if_pos h0]; rfl
          · rw [dF (by omega), if_neg h0, gI, e1, b1]
            simp only [cond_false, bnd]
            rw [gI]
        -- the end
        have fin : ∀ y, 0 ≤ y → y ≤ 30 → ∃ r, nx y = some r ∧ wandererref_sized_k122 nx2 y = some r ∧ 0 ≤ r.1 ∧ r.1 ≤ 30 := by
          intro y h3 h4
          unfold wandererref_sized_k122
          rw [dF (by omega)]
          exact ihm y h3 h4
        have zero : ∀ r : Int × Bool, r = (0, false) → 0 ≤ r.1 ∧ r.1 ≤ 30 := by rintro r rfl; exact ⟨by decide, by decide⟩
        have tail : ∀ y, 0 ≤ y → y ≤ 30 → ∃ r, (if x.b.length = 0 then nx y else bif ((!rb.2) || decide ((30 : Int) < y + rb.1)) then some (0, false) else nx (y + rb.1)) = some r ∧
            (if x.b.length = 0 then wandererref_sized_k122 nx2 y else bif ((!rb.2) || decide ((30 : Int) < y + rb.1)) then some (0, false) else wandererref_sized_k122 nx2 (y + rb.1)) = some r ∧ 0 ≤ r.1 ∧ r.1 ≤ 30 := by
          intro y h3 h4
          by_cases h0 : x.b.length = 0
          · rw [if_pos h0, if_pos h0]; exact fin y h3 h4
          · rw [if_neg h0, if_neg h0]
            cases hc : ((!rb.2) || decide ((30 : Int) < y + rb.1)) with
            | true => exact ⟨(0, false), rfl, rfl, zero _ rfl⟩
            | false =>
              simp only [Bool.or_eq_false_iff, decide_eq_false_iff_not] at hc
              exact fin _ (by omega) (by omega)
        by_cases h30 : 30 < n + 1
        · rw [dT h30]
          simp only [cond_true]
          have big : ∀ y, 30 < y → y ≤ 100 → wandererref_sized_b121 (wandererref_sized N) x l0 ((k + 1 : Nat) : Int) 1 y (wandererref_sized_k122 nx2) = some (0, false) := by
            intro y h3 h4
            rw [hB1 y _ (by omega) h4]
            by_cases h0 : x.b.length = 0
            · rw [if_pos h0]; unfold wandererref_sized_k122; rw [dT h3]; rfl
            · rw [if_neg h0, show decide ((30 : Int) < y + rb.1) = true from dT (by omega)]; simp
          refine ⟨(0, false), rfl, ?_, zero _ rfl⟩
          by_cases h0 : x.a.length = 0
          · rw [if_pos h0]; exact big _ h30 (by omega)
          · rw [if_neg h0, show decide ((30 : Int) < n + 1 + ra.1) = true from dT (by omega)]; simp
        · rw [dF h30]
          simp only [cond_false]
          by_cases h0 : x.a.length = 0
          · rw [dT (show (x.a.length : Int) = 0 by omega), if_pos h0]
            simp only [cond_true]
            rw [hA _ (by omega) (by omega), hB1 _ _ (by omega) (by omega)]
            exact tail _ (by omega) (by omega)
          · rw [dF (show ¬ (x.a.length : Int) = 0 by omega), if_neg h0]
            simp only [cond_false]
            rw [gI, e1, a1]
            simp only [bnd]
            rw [gI]
            cases hc : ((!ra.2) || decide ((30 : Int) < n + 1 + ra.1)) with
            | true => exact ⟨(0, false), rfl, rfl, zero _ rfl⟩
            | false =>
              simp only [Bool.or_eq_false_iff, decide_eq_false_iff_not] at hc
              simp only [cond_false]
              rw [hA _ (by omega) (by omega), hB1 _ _ (by omega) (by omega)]
              exact tail _ (by omega) (by omega)
    subst hl0
    exact this l 0 (by omega) (by omega)
end Go.Proofs.Ytkjajililnbimaa

namespace Go.Proofs.Ytkjajililnbimaa
open Go Go.Proofs Go.LX
theorem eqTok (a b : List Tok) : slices_Equal_Tok a b = some (decide (a = b)) := by
  unfold slices_Equal_Tok
  by_cases h : a.length = b.length
  · rw [dF (by omega)]
    simp only [cond_false, Int.toNat_natCast]
    rw [upto_all2 (fun x y => decide (x = y)) a b h rfl (fun i x y nx h1 h2 => by
      unfold slices_Equal_Tok_b3
      rw [idx_nat, idx_nat, h1, h2]
      have : (decide (x.kind = y.kind) && decide (x.n = y.n)) = decide (x = y) := by
        cases x; cases y; rw [Bool.eq_iff_iff]; simp
      simp only [bnd]
      rw [this]
      cases decide (x = y) <;> rfl), all2_eq (fun _ _ => rfl)]
  · rw [dT (by omega)]
    have : a ≠ b := fun e => h (by rw [e])
    rw [dF this]; rfl
theorem sameEq : ∀ (d : Nat) (a b : List GStmt) (N : Nat), SizeOf.sizeOf a < d → d ≤ N → ∃ r, source_same N a b = some r ∧ wandererref_sameStmts N a b = some r
  | 0, _, _, _, h, _ => absurd h (Nat.not_lt_zero _)
  | d + 1, _, _, 0, h, hN => by omega
  | d + 1, a, b, N + 1, h, hN => by
    have ih := fun a' b' (h' : SizeOf.sizeOf a' < d) => sameEq d a' b' N h' (by omega)
    show ∃ r, source_same_r (source_same N) a b = some r ∧ wandererref_sameStmts_r (wandererref_sameStmts N) a b = some r
    unfold source_same_r wandererref_sameStmts_r
    by_cases hl : a.length = b.length
    · rw [dF (by omega)]
      simp only [cond_false]
      generalize hl0 : a = l0
      have key : ∀ (k : List GStmt) (i : Nat), SizeOf.sizeOf k ≤ d → i + k.length = b.length → ∃ r, eachI (source_same_b23 (source_same N) b l0) source_same_k24 (i : Int) k () = some r ∧ eachI (wandererref_sameStmts_b11 (wandererref_sameStmts N) b l0) wandererref_sameStmts_k12 (i : Int) k () = some r := by
        intro k
        induction k with
        | nil => intro i _ _; exact ⟨true, rfl, rfl⟩
        | cons x k ihk =>
          intro i hk hi
          simp at hk
          simp only [List.length_cons] at hi
          obtain ⟨r, h1, h2⟩ := ihk (i + 1) (by omega) (by omega)
          rw [show ((i + 1 : Nat) : Int) = (i : Int) + 1 from rfl] at h1 h2
          have ha := sz_a x
          have hb := sz_b x
          rw [eachI_cons, eachI_cons]
          generalize eachI (source_same_b23 (source_same N) b l0) source_same_k24 ((i : Int) + 1) k = nx at h1 ⊢
          generalize eachI (wandererref_sameStmts_b11 (wandererref_sameStmts N) b l0) wandererref_sameStmts_k12 ((i : Int) + 1) k = nx2 at h2 ⊢
          have hib : i < b.length := by omega
          unfold source_same_b23 wandererref_sameStmts_b11 source_same_j22 wandererref_sameStmts_j10
          rw [idx_lt hib]
          obtain ⟨u, g3, g4⟩ := ih x.a (b[i]).a (by omega)
          obtain ⟨v, g5, g6⟩ := ih x.b (b[i]).b (by omega)
          simp only [bnd, eqTok, g3, g4, g5, g6]
          have : (decide (x.kind ≠ (b[i]).kind) || decide (x.n ≠ (b[i]).n)) = !(decide (x.kind = (b[i]).kind) && decide (x.n = (b[i]).n)) := by simp [Bool.not_and]
          rw [this]
          cases (decide (x.kind = (b[i]).kind) && decide (x.n = (b[i]).n)) with
          | false => exact ⟨false, rfl, rfl⟩
          | true =>
          cases decide (x.e = (b[i]).e) with
          | false => exact ⟨false, rfl, rfl⟩
          | true =>
          cases decide (x.f = (b[i]).f) with
          | false => exact ⟨false, rfl, rfl⟩
          | true =>
          cases u with
          | false => exact ⟨false, rfl, rfl⟩
          | true =>
          cases v with
          | false => exact ⟨false, rfl, rfl⟩
          | true => exact ⟨r, h1, h2⟩
      subst hl0
      exact key a 0 (by omega) (by omega)
    · rw [dT (by omega)]; exact ⟨false, rfl, rfl⟩
theorem szB (a : List Fun) : ∃ B : Nat, ∀ x ∈ a, SizeOf.sizeOf x.body ≤ B := by
  induction a with
  | nil => exact ⟨0, fun x h => by cases h⟩
  | cons y r ih =>
    obtain ⟨B, hB⟩ := ih
    refine ⟨B + SizeOf.sizeOf y.body, fun x hx => ?_⟩
    rcases List.mem_cons.1 hx with rfl | h
    · omega
    · have := hB x h; omega
theorem SameEq (a b : List Fun) (N : Nat) (hN : ∀ x ∈ a, SizeOf.sizeOf x.body < N) : ∃ r, source_Same N a b = some r ∧ wandererref_SameSource N a b = some r := by
  unfold source_Same wandererref_SameSource
  by_cases hl : a.length = b.length
  · rw [dF (by omega)]
    simp only [cond_false]
    have key : ∀ (k : List Fun) (i : Nat), (∀ x ∈ k, SizeOf.sizeOf x.body < N) → i + k.length = b.length → ∃ r, eachI (source_Same_b23 N b) source_Same_k24 (i : Int) k () = some r ∧ eachI (wandererref_SameSource_b23 N b) wandererref_SameSource_k24 (i : Int) k () = some r := by
      intro k
      induction k with
      | nil => intro i _ _; exact ⟨true, rfl, rfl⟩
      | cons x k ihk =>
        intro i hk hi
        simp only [List.length_cons] at hi
        obtain ⟨r, h1, h2⟩ := ihk (i + 1) (fun y hy => hk y (List.mem_cons_of_mem _ hy)) (by omega)
        rw [show ((i + 1 : Nat) : Int) = (i : Int) + 1 from rfl] at h1 h2
        rw [eachI_cons, eachI_cons]
        generalize eachI (source_Same_b23 N b) source_Same_k24 ((i : Int) + 1) k = nx at h1 ⊢
        generalize eachI (wandererref_SameSource_b23 N b) wandererref_SameSource_k24 ((i : Int) + 1) k = nx2 at h2 ⊢
        have hib : i < b.length := by omega
        unfold source_Same_b23 wandererref_SameSource_b23 source_Same_j22 wandererref_SameSource_j22
        rw [idx_lt hib]
        obtain ⟨u, g1, g2⟩ := sameEq N x.body (b[i]).body N (hk x List.mem_cons_self) (Nat.le_refl _)
        simp only [bnd, g1, g2]
        cases (decide (x.params = (b[i]).params) && decide (x.locals = (b[i]).locals)) with
        | false => exact ⟨false, rfl, rfl⟩
        | true =>
        cases u with
        | false => exact ⟨false, rfl, rfl⟩
        | true => exact ⟨r, h1, h2⟩
    exact key a 0 hN (by omega)
  · rw [dT (by omega)]; exact ⟨false, rfl, rfl⟩
theorem CheckEq (a : List Fun) (N : Nat) (hN : ∀ x ∈ a, SizeOf.sizeOf x.body + 200 < N) (hN0 : 200 < N) : ∃ r, source_Check N a = some r ∧ wandererref_CheckSource N a = some r := by
  unfold source_Check wandererref_CheckSource
  have e0 : (!(wandererref_in (a.length : Int) 1 4)) = (decide ((a.length : Int) = 0) || decide (4 < (a.length : Int))) := by
    have hn : 0 ≤ (a.length : Int) := by omega
    unfold wandererref_in
    generalize (a.length : Int) = n at hn ⊢
    rw [Bool.eq_iff_iff]; simp; omega
  rw [e0]
  cases (decide ((a.length : Int) = 0) || decide (4 < (a.length : Int))) with
  | true => exact ⟨2, rfl, rfl⟩
  | false =>
  simp only [cond_false]
  have last : ∃ r, source_Check_k8 N a () = some r ∧ wandererref_CheckSource_k8 N a () = some r := by
    unfold source_Check_k8 wandererref_CheckSource_k8
    have key : ∀ (k : List Fun), (∀ x ∈ k, SizeOf.sizeOf x.body + 200 < N) → ∃ r, each (source_Check_b5 N a) source_Check_k6 k () = some r ∧ each (wandererref_CheckSource_b5 N a) wandererref_CheckSource_k6 k () = some r := by
      intro k
      induction k with
      | nil => intro _; exact ⟨0, rfl, rfl⟩
      | cons x k ihk =>
        intro hk
        obtain ⟨r, h1, h2⟩ := ihk (fun y hy => hk y (List.mem_cons_of_mem _ hy))
        rw [each_cons, each_cons]
        generalize each (source_Check_b5 N a) source_Check_k6 k = nx at h1 ⊢
        generalize each (wandererref_CheckSource_b5 N a) wandererref_CheckSource_k6 k = nx2 at h2 ⊢
        have hx := hk x List.mem_cons_self
        obtain ⟨u, g1, g2, _⟩ := countEq 4 x.body N (by omega) (by omega)
        obtain ⟨v, g3, g4⟩ := stmtsEq a x.locals (SizeOf.sizeOf x.body + 1) x.body N (by omega) (by omega)
        rw [show (5 - ((4 : Nat) : Int)) = 1 from rfl] at g1
        rw [show ((4 : Nat) : Int) = 4 from rfl] at g2
        unfold source_Check_b5 wandererref_CheckSource_b5
        simp only [g1, g2, g3, g4, bnd]
        cases u.2 with
        | false => exact ⟨2, rfl, rfl⟩
        | true =>
        cases decide (v ≠ 0) with
        | true => exact ⟨v, rfl, rfl⟩
        | false => exact ⟨r, h1, h2⟩
    exact key a hN
  obtain ⟨r, h1, h2⟩ := last
  generalize source_Check_k8 N a = k1 at h1 ⊢
  generalize wandererref_CheckSource_k8 N a = k2 at h2 ⊢
  have key : ∀ (k : List Fun) (i : Int), ∃ r, eachI source_Check_b7 k1 i k () = some r ∧ eachI wandererref_CheckSource_b7 k2 i k () = some r := by
    intro k
    induction k with
    | nil => intro i; exact ⟨r, h1, h2⟩
    | cons x k ihk =>
      intro i
      obtain ⟨s, g1, g2⟩ := ihk (i + 1)
      rw [eachI_cons, eachI_cons]
      generalize eachI source_Check_b7 k1 (i + 1) k = nx at g1 ⊢
      generalize eachI wandererref_CheckSource_b7 k2 (i + 1) k = nx2 at g2 ⊢
      unfold source_Check_b7 wandererref_CheckSource_b7 wandererref_in
      have e : (((!(decide ((0 : Int) ≤ x.params) && decide (x.params ≤ 3))) || (!(decide (x.params ≤ x.locals) && decide (x.locals ≤ 6)))) || (decide (i = 0) && decide (x.params ≠ 0))) = ((((decide ((x.params : Int) < 0) || decide ((3 : Int) < x.params)) || decide ((x.locals : Int) < x.params)) || decide ((6 : Int) < x.locals)) || (decide ((i : Int) = 0) && decide ((0 : Int) < x.params))) := by
        rw [Bool.eq_iff_iff]; simp; omega
      rw [e]
      cases ((((decide ((x.params : Int) < 0) || decide ((3 : Int) < x.params)) || decide ((x.locals : Int) < x.params)) || decide ((6 : Int) < x.locals)) || (decide ((i : Int) = 0) && decide ((0 : Int) < x.params))) with
      | true => exact ⟨3, rfl, rfl⟩
      | false => exact ⟨s, g1, g2⟩
  exact key a 0
theorem typed_ok (N : Nat) : wandererlaw_typed (N + 200) = some true := by rfl
theorem sourceSays (a b : List Fun) (c : List Tok) (d : Int) : ∃ N, wandererlaw_SourceSays N a b c d = some true := by
  obtain ⟨B, hB⟩ := szB a
  refine ⟨B + 1 + 200, ?_⟩
  unfold wandererlaw_SourceSays
  rw [typed_ok]
  obtain ⟨r, h1, h2⟩ := CheckEq a (B + 1 + 200) (fun x hx => by have := hB x hx; omega) (by omega)
  obtain ⟨s, h3, h4⟩ := SameEq a b (B + 1 + 200) (fun x hx => by have := hB x hx; omega)
  obtain ⟨u, h5, h6⟩ := exprEq c a d (B + 1 + 200) (by omega)
  simp only [h1, h2, h3, h4, h5, h6, bnd, decide_true, cond_true, beq_self_eq_true]
end Go.Proofs.Ytkjajililnbimaa
