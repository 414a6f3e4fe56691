/-
  Plain laws.
-/
import Derived.Test.YtckocfgmnlhcmaaGreatDoorWsyc
import Derived.Test.YtckocfgmnlhcmaaGreatDoorWrdPure
set_option linter.unusedSimpArgs false
set_option linter.unusedVariables false
namespace Go.Proofs.YtckocfgmnlhcmaaGreatDoor
open Go Go.Proofs Go.LX
theorem each_cons' {α σ ρ : Type} {body : α → σ → (σ → ρ) → ρ} {k : σ → ρ} (x : α) (l : List α) (s : σ) : each body k (x :: l) s = body x s (each body k l) := rfl
def okP (b : List Fun) : Bool := b.all fun x => decide (0 ≤ x.params) && decide (x.params ≤ 3)
theorem expr1 (a : List Tok) (b : List Fun) (c : Int) : source_Expr a b c = if 24 < a.length then some 2 else if okP b then each (source_Expr_b29 b c) source_Expr_k30 a 1 else some 3 := by
  unfold source_Expr
  by_cases h : 24 < a.length
  · rw [dT (by omega), cond_true, if_pos h]
  · rw [dF (by omega), cond_false, if_neg h, Int.toNat_natCast]
    have key : ∀ (m i : Nat), i + m = b.length → upto (source_Expr_b37 b c a) (source_Expr_k38 b c a) (i : Int) m () = if okP (b.drop i) then each (source_Expr_b29 b c) source_Expr_k30 a 1 else some 3 := by
      intro m
      induction m with
      | zero => intro i h; rw [List.drop_eq_nil_of_le (by omega)]; rfl
      | succ m ih =>
        intro i h
        have h1 : i < b.length := by omega
        rw [List.drop_eq_getElem_cons h1]
        show source_Expr_b37 b c a (i : Int) () (upto _ _ ((i : Int) + 1) m) = _
        have ih' := ih (i + 1) (by omega)
        rw [show ((i + 1 : Nat) : Int) = (i : Int) + 1 from rfl] at ih'
        generalize upto (source_Expr_b37 b c a) (source_Expr_k38 b c a) ((i : Int) + 1) m = nx at ih' ⊢
        unfold source_Expr_b37
        rw [idx_lt h1, Option.bind_some]
        by_cases hq : 0 ≤ b[i].params ∧ b[i].params ≤ 3
        · rw [show (decide ((b[i].params : Int) < 0) || decide ((3 : Int) < b[i].params)) = false by simp only [Bool.or_eq_false_iff, decide_eq_false_iff_not]; omega, cond_false, ih']
          have : okP (b[i] :: b.drop (i + 1)) = okP (b.drop (i + 1)) := by unfold okP; rw [List.all_cons, dT hq.1, dT hq.2]; rfl
          rw [this]
        · rw [show (decide ((b[i].params : Int) < 0) || decide ((3 : Int) < b[i].params)) = true by simp only [Bool.or_eq_true, decide_eq_true_eq]; omega, cond_true, dT (by omega)]
          have : okP (b[i] :: b.drop (i + 1)) = false := by
            simp only [okP, List.all_cons, Bool.and_eq_false_iff, decide_eq_false_iff_not]; omega
          rw [this]; rfl
    have := key b.length 0 (by omega)
    simpa using this
abbrev psOf (b : List Fun) : List Int := b.map (·.params)
theorem tok_tot (a : Tok) (b : List Fun) (c : Int) : ∃ n e, source_tok a b c = some (n, e) ∧ (e = 0 → TokOk (psOf b) c a ∧ n = asksT (psOf b) a) := by
  obtain ⟨k, m⟩ := a
  unfold source_tok source_tok_j1
  simp only
  by_cases h1 : k = 1
  · subst h1
    rw [dT rfl, cond_true]
    by_cases h : -1000000000 ≤ m ∧ m ≤ 1000000000
    · rw [dT h.1, dT h.2]; exact ⟨0, 0, rfl, fun _ => ⟨.inl ⟨rfl, h⟩, rfl⟩⟩
    · rw [show (decide ((-1000000000 : Int) ≤ m) && decide (m ≤ (1000000000 : Int))) = false by simp only [Bool.and_eq_false_iff, decide_eq_false_iff_not]; omega]
      exact ⟨0, 3, rfl, fun h => absurd h (by decide)⟩
  rw [dF h1, cond_false]
  by_cases h2 : k = 2
  · subst h2
    rw [dT rfl, cond_true]
    by_cases h : 0 ≤ m ∧ m < c
    · rw [dT h.1, dT h.2]; exact ⟨0, 0, rfl, fun _ => ⟨.inr (.inl ⟨rfl, h⟩), rfl⟩⟩
    · rw [show (decide ((0 : Int) ≤ m) && decide (m < c)) = false by simp only [Bool.and_eq_false_iff, decide_eq_false_iff_not]; omega]
      exact ⟨0, 3, rfl, fun h => absurd h (by decide)⟩
  rw [dF h2, cond_false]
  by_cases h3 : k = 3
  · subst h3
    rw [dT rfl, cond_true]
    by_cases h : 1 ≤ m ∧ m ≤ 5
    · rw [dT h.1, dT h.2]; exact ⟨2, 0, rfl, fun _ => ⟨.inr (.inr (.inl ⟨rfl, h⟩)), rfl⟩⟩
    · rw [show (decide ((1 : Int) ≤ m) && decide (m ≤ (5 : Int))) = false by simp only [Bool.and_eq_false_iff, decide_eq_false_iff_not]; omega]
      exact ⟨0, 3, rfl, fun h => absurd h (by decide)⟩
  rw [dF h3, cond_false]
  by_cases h4 : k = 4
  · subst h4
    rw [dT rfl, cond_true]
    by_cases h : 0 ≤ m ∧ m < 4
    · rw [dT h.1, dT h.2]; exact ⟨1, 0, rfl, fun _ => ⟨.inr (.inr (.inr (.inl ⟨rfl, h⟩))), rfl⟩⟩
    · rw [show (decide ((0 : Int) ≤ m) && decide (m < (4 : Int))) = false by simp only [Bool.and_eq_false_iff, decide_eq_false_iff_not]; omega]
      exact ⟨0, 3, rfl, fun h => absurd h (by decide)⟩
  rw [dF h4, cond_false]
  by_cases h5 : k = 5
  · subst h5
    rw [dT rfl, cond_true]
    by_cases h : 1 ≤ m ∧ m ≤ 4
    · rw [dT h.1, dT h.2]; exact ⟨0, 0, rfl, fun _ => ⟨.inr (.inr (.inr (.inr (.inl ⟨rfl, h⟩)))), rfl⟩⟩
    · rw [show (decide ((1 : Int) ≤ m) && decide (m ≤ (4 : Int))) = false by simp only [Bool.and_eq_false_iff, decide_eq_false_iff_not]; omega]
      exact ⟨0, 3, rfl, fun h => absurd h (by decide)⟩
  rw [dF h5, cond_false]
  by_cases h6 : k = 6
  · subst h6
    rw [dT rfl, cond_true]
    by_cases h : 0 ≤ m ∧ m < b.length
    · rw [show (decide (m < (0 : Int)) || decide (((b.length : Int) : Int) ≤ m)) = false by simp only [Bool.or_eq_false_iff, decide_eq_false_iff_not]; omega, cond_false]
      obtain ⟨n, rfl⟩ := Int.eq_ofNat_of_zero_le h.1
      have hn : n < b.length := by omega
      rw [idx_lt hn, Option.bind_some]
      refine ⟨_, 0, rfl, fun _ => ⟨.inr (.inr (.inr (.inr (.inr ⟨rfl, by simpa using h⟩)))), ?_⟩⟩
      simp [asksT, callN, psOf, hn]
    · rw [show (decide (m < (0 : Int)) || decide (((b.length : Int) : Int) ≤ m)) = true by simp only [Bool.or_eq_true, decide_eq_true_eq]; omega]
      exact ⟨0, 5, rfl, fun h => absurd h (by decide)⟩
  rw [dF h6, cond_false]
  exact ⟨0, 4, rfl, fun h => absurd h (by decide)⟩
theorem asks_bd {b : List Fun} (hb : okP b = true) (t : Tok) : 0 ≤ asksT (psOf b) t ∧ asksT (psOf b) t ≤ 3 := by
  unfold asksT
  split
  · omega
  · split
    · omega
    · split
      · unfold callN
        split
        · rename_i h
          have hn : t.n.toNat < b.length := by simp [psOf] at h; omega
          have := List.all_eq_true.1 hb _ (List.getElem_mem hn)
          simp only [Bool.and_eq_true, decide_eq_true_eq] at this
          simp [psOf, hn]
          omega
        · omega
      · omega
theorem expr_loop (b : List Fun) (c : Int) (hb : okP b = true) : ∀ (l : List Tok) (w : Int), 0 ≤ w → w + 3 * l.length ≤ 1000 → ∃ r, each (source_Expr_b29 b c) source_Expr_k30 l w = some r ∧ (r = 0 → (∀ t ∈ l, TokOk (psOf b) c t) ∧ wants (psOf b) w l)
  | [], w, hw, _ => by
    show ∃ r, source_Expr_k30 w = some r ∧ _
    unfold source_Expr_k30
    by_cases h : 0 < w
    · rw [dT h]; exact ⟨4, rfl, fun h => absurd h (by decide)⟩
    · rw [dF h]; exact ⟨0, rfl, fun _ => ⟨by simp, show w = 0 by omega⟩⟩
  | t :: l, w, hw, hl => by
    rw [each_cons', source_Expr_b29]
    obtain ⟨n, e, h1, h2⟩ := tok_tot t b c
    rw [h1, Option.bind_some]
    simp only [List.length_cons] at hl
    by_cases he : e = 0
    · obtain ⟨h3, h4⟩ := h2 he
      subst he
      have hn := asks_bd hb t
      rw [← h4] at hn
      rw [dF (by simp), cond_false]
      by_cases hw0 : w = 0
      · rw [dT hw0]; exact ⟨4, rfl, fun h => absurd h (by decide)⟩
      · rw [dF hw0, cond_false, gI (by omega) (by omega), gI (by omega) (by omega)]
        obtain ⟨r, h5, h6⟩ := expr_loop b c hb l (w + (n - 1)) (by omega) (by omega)
        refine ⟨r, h5, fun hr => ?_⟩
        obtain ⟨h7, h8⟩ := h6 hr
        refine ⟨fun x hx => ?_, by omega, by rw [← h4]; exact h8⟩
        rcases List.mem_cons.1 hx with rfl | hx
        · exact h3
        · exact h7 x hx
    · rw [dT he, cond_true]
      exact ⟨e, rfl, fun h => absurd h he⟩
theorem expr_tot (a : List Tok) (b : List Fun) (c : Int) : ∃ r, source_Expr a b c = some r ∧ (r = 0 → ExprOk (psOf b) c a) := by
  rw [expr1]
  by_cases h : 24 < a.length
  · rw [if_pos h]; exact ⟨2, rfl, fun h => absurd h (by decide)⟩
  · rw [if_neg h]
    by_cases hb : okP b = true
    · rw [if_pos hb]
      obtain ⟨r, h1, h2⟩ := expr_loop b c hb a 1 (by decide) (by omega)
      exact ⟨r, h1, fun hr => ⟨by omega, (h2 hr).1, (h2 hr).2⟩⟩
    · rw [if_neg hb]; exact ⟨3, rfl, fun h => absurd h (by decide)⟩
theorem all_cons' {α : Type} {P : α → Prop} {x : α} {l : List α} (h1 : P x) (h2 : ∀ s ∈ l, P s) : ∀ s ∈ x :: l, P s := fun s hs => by
  rcases List.mem_cons.1 hs with rfl | hs
  · exact h1
  · exact h2 s hs
theorem j2_tot (a : GStmt) (b : List Fun) (c : Int) (n e f x y : Bool) : ∃ r, source_stmt_j2 a b c n e f x y = some r ∧ (r = 0 →
    (n = false → a.n = 0) ∧ (e = false → a.e = []) ∧ (f = false → a.f = []) ∧ (x = false → a.a = []) ∧ (y = false → a.b = []) ∧ (e = true → ExprOk (psOf b) c a.e) ∧ (f = true → ExprOk (psOf b) c a.f) ∧ (a.kind = 1 → 0 ≤ a.n ∧ a.n < c) ∧ (a.kind = 2 → 0 ≤ a.n ∧ a.n < 4)) := by
  unfold source_stmt_j2
  generalize hA : ((((((!n) && decide ((a.n : Int) ≠ 0)) || ((!e) && decide ((0 : Int) < (a.e.length : Int)))) || ((!f) && decide ((0 : Int) < (a.f.length : Int)))) || ((!x) && decide ((0 : Int) < (a.a.length : Int)))) || ((!y) && decide ((0 : Int) < (a.b.length : Int)))) = A
  cases A with
  | true => exact ⟨4, rfl, fun h => absurd h (by decide)⟩
  | false =>
    rw [cond_false]
    generalize hB : ((decide ((a.kind : Int) = 1) && (decide ((a.n : Int) < 0) || decide ((c : Int) ≤ a.n))) || (decide ((a.kind : Int) = 2) && (decide ((a.n : Int) < 0) || decide ((4 : Int) ≤ a.n)))) = B
    cases B with
    | true => exact ⟨3, rfl, fun h => absurd h (by decide)⟩
    | false =>
      rw [cond_false]
      simp only [Bool.or_eq_false_iff, Bool.and_eq_false_iff, Bool.not_eq_false', decide_eq_false_iff_not, Decidable.not_not] at hA hB
      obtain ⟨⟨⟨⟨a1, a2⟩, a3⟩, a4⟩, a5⟩ := hA
      have nil : ∀ {α : Type} {l : List α}, ¬ ((0 : Int) < (l.length : Int)) → l = [] := fun h => List.eq_nil_of_length_eq_zero (by omega)
      have base : (n = false → a.n = 0) ∧ (e = false → a.e = []) ∧ (f = false → a.f = []) ∧ (x = false → a.a = []) ∧ (y = false → a.b = []) := by
        refine ⟨fun h => ?_, fun h => ?_, fun h => ?_, fun h => ?_, fun h => ?_⟩
        · rcases a1 with q | q
          · rw [h] at q; cases q
          · exact q
        · rcases a2 with q | q
          · rw [h] at q; cases q
          · exact nil q
        · rcases a3 with q | q
          · rw [h] at q; cases q
          · exact nil q
        · rcases a4 with q | q
          · rw [h] at q; cases q
          · exact nil q
        · rcases a5 with q | q
          · rw [h] at q; cases q
          · exact nil q
      have kk : (a.kind = 1 → 0 ≤ a.n ∧ a.n < c) ∧ (a.kind = 2 → 0 ≤ a.n ∧ a.n < 4) := by omega
      obtain ⟨re, e1, e2⟩ := expr_tot a.e b c
      obtain ⟨rf, f1, f2⟩ := expr_tot a.f b c
      have hj3 : ∃ r, source_stmt_j3 f a b c = some r ∧ (r = 0 → (f = true → ExprOk (psOf b) c a.f)) := by
        unfold source_stmt_j3
        cases f with
        | true => exact ⟨rf, by rw [cond_true, f1]; rfl, fun h _ => f2 h⟩
        | false => exact ⟨0, rfl, fun _ h => by cases h⟩
      obtain ⟨rj, j1, j2⟩ := hj3
      cases e with
      | true =>
        rw [cond_true, e1, Option.bind_some]
        by_cases h0 : re = 0
        · rw [dF (by omega), cond_false]
          exact ⟨rj, j1, fun h => ⟨base.1, base.2.1, base.2.2.1, base.2.2.2.1, base.2.2.2.2, fun _ => e2 h0, j2 h, kk.1, kk.2⟩⟩
        · rw [dT h0, cond_true]
          exact ⟨re, rfl, fun h => absurd h h0⟩
      | false =>
        rw [cond_false]
        exact ⟨rj, j1, fun h => ⟨base.1, base.2.1, base.2.2.1, base.2.2.2.1, base.2.2.2.2, (fun h => by cases h), j2 h, kk.1, kk.2⟩⟩
theorem stmt_tot (a : GStmt) (b : List Fun) (c : Int) : ∃ r, source_stmt a b c = some r ∧ (r = 0 → Shape (psOf b) c a) := by
  unfold source_stmt
  by_cases h1 : a.kind = 1
  · rw [dT h1, cond_true]
    obtain ⟨r, g1, g2⟩ := j2_tot a b c true true false false false
    exact ⟨r, g1, fun h => by obtain ⟨q1, q2, q3, q4, q5, q6, q7, q8, q9⟩ := g2 h; exact .inl ⟨h1, q8 h1, q6 rfl, q3 rfl, q4 rfl, q5 rfl⟩⟩
  rw [dF h1, cond_false]
  by_cases h2 : a.kind = 2
  · rw [dT h2, cond_true]
    obtain ⟨r, g1, g2⟩ := j2_tot a b c true true true false false
    exact ⟨r, g1, fun h => by obtain ⟨q1, q2, q3, q4, q5, q6, q7, q8, q9⟩ := g2 h; exact .inr (.inl ⟨h2, q9 h2, q6 rfl, q7 rfl, q4 rfl, q5 rfl⟩)⟩
  rw [dF h2, cond_false]
  obtain ⟨r8, g8, g8'⟩ := j2_tot a b c false true false false false
  by_cases h3 : a.kind = 3
  · rw [dT h3, cond_true]
    unfold source_stmt_j4
    rw [cond_true]
    exact ⟨r8, g8, fun h => by obtain ⟨q1, q2, q3, q4, q5, q6, q7, q8, q9⟩ := g8' h; exact .inr (.inr (.inl ⟨h3, q1 rfl, q6 rfl, q3 rfl, q4 rfl, q5 rfl⟩))⟩
  rw [dF h3, cond_false]
  by_cases h5 : a.kind = 5
  · rw [dT h5, cond_true]
    unfold source_stmt_j4
    rw [cond_true]
    exact ⟨r8, g8, fun h => by obtain ⟨q1, q2, q3, q4, q5, q6, q7, q8, q9⟩ := g8' h; exact .inr (.inr (.inr (.inr (.inl ⟨h5, q1 rfl, q6 rfl, q3 rfl, q4 rfl, q5 rfl⟩))))⟩
  rw [dF h5, cond_false]
  unfold source_stmt_j4
  by_cases h8 : a.kind = 8
  · rw [dT h8, cond_true]
    exact ⟨r8, g8, fun h => by obtain ⟨q1, q2, q3, q4, q5, q6, q7, q8, q9⟩ := g8' h; exact .inr (.inr (.inr (.inr (.inr (.inr (.inr ⟨h8, q1 rfl, q6 rfl, q3 rfl, q4 rfl, q5 rfl⟩))))))⟩
  rw [dF h8, cond_false]
  by_cases h4 : a.kind = 4
  · rw [dT h4, cond_true]
    obtain ⟨r, g1, g2⟩ := j2_tot a b c false false false false false
    exact ⟨r, g1, fun h => by obtain ⟨q1, q2, q3, q4, q5, q6, q7, q8, q9⟩ := g2 h; exact .inr (.inr (.inr (.inl ⟨h4, q1 rfl, q2 rfl, q3 rfl, q4 rfl, q5 rfl⟩)))⟩
  rw [dF h4, cond_false]
  by_cases h6 : a.kind = 6
  · rw [dT h6, cond_true]
    obtain ⟨r, g1, g2⟩ := j2_tot a b c false true false true true
    exact ⟨r, g1, fun h => by obtain ⟨q1, q2, q3, q4, q5, q6, q7, q8, q9⟩ := g2 h; exact .inr (.inr (.inr (.inr (.inr (.inl ⟨h6, q1 rfl, q6 rfl, q3 rfl⟩)))))⟩
  rw [dF h6, cond_false]
  by_cases h7 : a.kind = 7
  · rw [dT h7, cond_true]
    obtain ⟨r, g1, g2⟩ := j2_tot a b c false true false true false
    exact ⟨r, g1, fun h => by obtain ⟨q1, q2, q3, q4, q5, q6, q7, q8, q9⟩ := g2 h; exact .inr (.inr (.inr (.inr (.inr (.inr (.inl ⟨h7, q1 rfl, q6 rfl, q3 rfl, q5 rfl⟩))))))⟩
  rw [dF h7, cond_false]
  exact ⟨4, rfl, fun h => absurd h (by decide)⟩
inductive AllShape (ps : List Int) (c : Int) : List GStmt → Prop
  | mk {l : List GStmt} (h1 : ∀ s ∈ l, Shape ps c s) (h2 : ∀ s ∈ l, AllShape ps c s.a) (h3 : ∀ s ∈ l, AllShape ps c s.b) : AllShape ps c l
theorem sz_a (x : GStmt) : SizeOf.sizeOf x.a < SizeOf.sizeOf x := by cases x; simp; omega
theorem sz_b (x : GStmt) : SizeOf.sizeOf x.b < SizeOf.sizeOf x := by cases x; simp; omega
theorem stmts_tot (b : List Fun) (c : Int) : ∀ (d : Nat) (l : List GStmt) (N : Nat), SizeOf.sizeOf l < d → d ≤ N → ∃ r, source_stmts N l b c = some r ∧ (r = 0 → AllShape (psOf b) c l)
  | 0, _, _, h, _ => absurd h (Nat.not_lt_zero _)
  | d + 1, _, 0, h, hN => by omega
  | d + 1, l, N + 1, h, hN => by
    have ih := fun l' (h' : SizeOf.sizeOf l' < d) => stmts_tot b c d l' N h' (by omega)
    show ∃ r, source_stmts_r (source_stmts N) l b c = some r ∧ _
    unfold source_stmts_r
    generalize hl0 : l = l0
    have key : ∀ (k : List GStmt), SizeOf.sizeOf k ≤ d → ∃ r, each (source_stmts_b3 (source_stmts N) b c l0) source_stmts_k4 k () = some r ∧ (r = 0 → AllShape (psOf b) c k) := by
      intro k
      induction k with
      | nil => intro _; exact ⟨0, rfl, fun _ => .mk (by simp) (by simp) (by simp)⟩
      | cons x k ihk =>
        intro hk
        simp at hk
        obtain ⟨r, h1, h2⟩ := ihk (by omega)
        have ha := sz_a x
        have hb := sz_b x
        rw [each_cons']
        generalize each (source_stmts_b3 (source_stmts N) b c l0) source_stmts_k4 k = nx at h1 ⊢
        unfold source_stmts_b3
        obtain ⟨u, g1, g2⟩ := stmt_tot x b c
        obtain ⟨v, g3, g4⟩ := ih x.a (by omega)
        obtain ⟨z, g5, g6⟩ := ih x.b (by omega)
        rw [g1, Option.bind_some]
        by_cases hu : u = 0
        · rw [dF (by omega), cond_false, g3, Option.bind_some]
          by_cases hv : v = 0
          · rw [dF (by omega), cond_false, g5, Option.bind_some]
            by_cases hz : z = 0
            · rw [dF (by omega), cond_false]
              refine ⟨r, h1, fun hr => ?_⟩
              cases h2 hr with
              | mk q1 q2 q3 =>
                exact .mk (all_cons' (g2 hu) q1) (all_cons' (g4 hv) q2) (all_cons' (g6 hz) q3)
            · rw [dT hz]; exact ⟨z, rfl, fun h => absurd h hz⟩
          · rw [dT hv]; exact ⟨v, rfl, fun h => absurd h hv⟩
        · rw [dT hu]; exact ⟨u, rfl, fun h => absurd h hu⟩
    subst hl0
    exact key l (by omega)
theorem count_tot (ps : List Int) (c : Int) : ∀ (k : Nat) (l : List GStmt) (N : Nat), k < N → k ≤ 4 → ∃ r, source_count N l (5 - (k : Int)) = some r ∧ (0 ≤ r.1 ∧ r.1 ≤ 30) ∧ (r.2 = true → AllShape ps c l → BlkOk ps c k l)
  | k, l, 0, h, _ => by omega
  | 0, l, N + 1, h, h4 => ⟨(0, false), rfl, by decide, fun h => by cases h⟩
  | k + 1, l, N + 1, h, h4 => by
    have ih := fun l' => count_tot ps c k l' N (by omega) (by omega)
    show ∃ r, source_count_r (source_count N) l (5 - ((k + 1 : Nat) : Int)) = some r ∧ _
    unfold source_count_r
    rw [dF (by omega), cond_false]
    generalize hl0 : l = l0
    have hb : (5 - ((k + 1 : Nat) : Int)) + 1 = 5 - (k : Int) := by omega
    generalize hbb : 5 - ((k + 1 : Nat) : Int) = bb at hb ⊢
    have key : ∀ (m : List GStmt) (x5 : Int), 0 ≤ x5 → x5 ≤ 30 → ∃ r, each (source_count_b27 (source_count N) l0 bb) source_count_k28 m x5 = some r ∧ (0 ≤ r.1 ∧ r.1 ≤ 30) ∧ (r.2 = true → x5 + m.length ≤ 30 ∧ ∀ s ∈ m, (s.a = [] ∨ ∃ q, source_count N s.a (5 - (k : Int)) = some q ∧ q.2 = true) ∧ (s.b = [] ∨ ∃ q, source_count N s.b (5 - (k : Int)) = some q ∧ q.2 = true)) := by
      intro m
      induction m with
      | nil => intro x5 h1 h2; exact ⟨(x5, true), rfl, ⟨h1, h2⟩, fun _ => ⟨by simpa using h2, by simp⟩⟩
      | cons s m ihm =>
        intro x5 h1 h2
        rw [each_cons', source_count_b27, gI (by omega) (by omega)]
        by_cases h3 : 30 < x5 + 1
        · rw [dT h3]; exact ⟨(0, false), rfl, by decide, fun h => by cases h⟩
        · rw [dF h3, cond_false]
          have hj : ∀ x : Int, x5 + 1 ≤ x → x ≤ 30 → ∃ r, source_count_j25 (source_count N) s bb (each (source_count_b27 (source_count N) l0 bb) source_count_k28 m) x = some r ∧ (0 ≤ r.1 ∧ r.1 ≤ 30) ∧ (r.2 = true → x5 + 1 + m.length ≤ 30 ∧ (∀ s ∈ m, (s.a = [] ∨ ∃ q, source_count N s.a (5 - (k : Int)) = some q ∧ q.2 = true) ∧ (s.b = [] ∨ ∃ q, source_count N s.b (5 - (k : Int)) = some q ∧ q.2 = true)) ∧ (s.b = [] ∨ ∃ q, source_count N s.b (5 - (k : Int)) = some q ∧ q.2 = true)) := by
            intro x hx1 hx2
            unfold source_count_j25 source_count_j26
            by_cases h5 : s.b = []
            · rw [dT (show ((s.b.length : Int) : Int) = 0 by rw [h5]; rfl), cond_true]
              obtain ⟨r, g1, g2, g3⟩ := ihm x (by omega) hx2
              exact ⟨r, g1, g2, fun h => ⟨by have := (g3 h).1; omega, (g3 h).2, .inl h5⟩⟩
            · have : s.b.length ≠ 0 := fun h => h5 (List.eq_nil_of_length_eq_zero h)
              rw [dF (by omega), cond_false, gI (by omega) (by omega), hb]
              obtain ⟨q, q1, q2, q3⟩ := ih s.b
              rw [q1, Option.bind_some, gI (by omega) (by omega)]
              generalize hD : ((!q.2) || decide ((30 : Int) < (x + q.1))) = D
              cases D with
              | true => exact ⟨(0, false), rfl, by decide, fun h => by cases h⟩
              | false =>
                simp only [Bool.or_eq_false_iff, Bool.not_eq_false', decide_eq_false_iff_not] at hD
                rw [cond_false]
                obtain ⟨r, g1, g2, g3⟩ := ihm (x + q.1) (by omega) (by omega)
                exact ⟨r, g1, g2, fun h => ⟨by have := (g3 h).1; omega, (g3 h).2, .inr ⟨q, rfl, hD.1⟩⟩⟩
          by_cases h5 : s.a = []
          · rw [dT (show ((s.a.length : Int) : Int) = 0 by rw [h5]; rfl), cond_true]
            obtain ⟨r, g1, g2, g3⟩ := hj (x5 + 1) (by omega) (by omega)
            refine ⟨r, g1, g2, fun h => ?_⟩
            obtain ⟨p1, p2, p3⟩ := g3 h
            refine ⟨by simp only [List.length_cons]; omega, fun y hy => ?_⟩
            rcases List.mem_cons.1 hy with rfl | hy
            · exact ⟨.inl h5, p3⟩
            · exact p2 y hy
          · have : s.a.length ≠ 0 := fun h => h5 (List.eq_nil_of_length_eq_zero h)
            rw [dF (by omega), cond_false, gI (by omega) (by omega), hb]
            obtain ⟨q, q1, q2, q3⟩ := ih s.a
            rw [q1, Option.bind_some, gI (by omega) (by omega)]
            generalize hD : ((!q.2) || decide ((30 : Int) < ((x5 + 1) + q.1))) = D
            cases D with
            | true => exact ⟨(0, false), rfl, by decide, fun h => by cases h⟩
            | false =>
              simp only [Bool.or_eq_false_iff, Bool.not_eq_false', decide_eq_false_iff_not] at hD
              rw [cond_false]
              obtain ⟨r, g1, g2, g3⟩ := hj ((x5 + 1) + q.1) (by omega) (by omega)
              refine ⟨r, g1, g2, fun h => ?_⟩
              obtain ⟨p1, p2, p3⟩ := g3 h
              refine ⟨by simp only [List.length_cons]; omega, fun y hy => ?_⟩
              rcases List.mem_cons.1 hy with rfl | hy
              · exact ⟨.inr ⟨q, q1, hD.1⟩, p3⟩
              · exact p2 y hy
    subst hl0
    obtain ⟨r, g1, g2, g3⟩ := key l 0 (by decide) (by decide)
    refine ⟨r, g1, g2, fun hr hA => ?_⟩
    obtain ⟨p1, p2⟩ := g3 hr
    cases hA with
    | mk s1 s2 s3 =>
      refine ⟨by omega, fun s hs => ⟨s1 s hs, ?_, ?_⟩⟩
      · rcases (p2 s hs).1 with h0 | ⟨q, q1, q2⟩
        · rw [h0]; exact BlkOk.nil k
        · obtain ⟨q', q1', _, q3'⟩ := ih s.a
          rw [q1] at q1'; cases q1'
          exact q3' q2 (s2 s hs)
      · rcases (p2 s hs).2 with h0 | ⟨q, q1, q2⟩
        · rw [h0]; exact BlkOk.nil k
        · obtain ⟨q', q1', _, q3'⟩ := ih s.b
          rw [q1] at q1'; cases q1'
          exact q3' q2 (s3 s hs)
theorem check_loop5 (N : Nat) (a : List Fun) (hN : 10 ≤ N) : ∀ l : List Fun, (∀ x ∈ l, SizeOf.sizeOf x.body < N) → ∃ r, each (source_Check_b5 N a) source_Check_k6 l () = some r ∧ (r = 0 → ∀ x ∈ l, BlkOk (psOf a) x.locals 4 x.body)
  | [], _ => ⟨0, rfl, fun _ => by simp⟩
  | x :: l, h => by
    obtain ⟨r, h1, h2⟩ := check_loop5 N a hN l (fun y hy => h y (List.mem_cons_of_mem _ hy))
    rw [each_cons', source_Check_b5]
    obtain ⟨q, q1, _, q3⟩ := count_tot (psOf a) x.locals 4 x.body N (by omega) (by decide)
    have q1' : source_count N x.body 1 = some q := q1
    rw [q1', Option.bind_some]
    obtain ⟨q0, qb⟩ := q
    cases qb with
    | false => exact ⟨2, rfl, fun h => absurd h (by decide)⟩
    | true =>
      simp only [Bool.not_true, cond_false]
      obtain ⟨z, z1, z2⟩ := stmts_tot a x.locals N x.body N (h x (by simp)) (Nat.le_refl _)
      rw [z1, Option.bind_some]
      by_cases hz : z = 0
      · rw [dF (by omega), cond_false]
        refine ⟨r, h1, fun hr y hy => ?_⟩
        rcases List.mem_cons.1 hy with rfl | hy
        · exact q3 rfl (z2 hz)
        · exact h2 hr y hy
      · rw [dT hz]; exact ⟨z, rfl, fun h => absurd h hz⟩
theorem check_loop7 (k : Unit → Option Int) (Q : Prop) (hk : ∃ r, k () = some r ∧ (r = 0 → Q)) : ∀ (l : List Fun) (i : Nat), ∃ r, eachI source_Check_b7 k (i : Int) l () = some r ∧ (r = 0 → Q ∧ ∀ x ∈ l, (0 ≤ x.params ∧ x.params ≤ 3) ∧ x.params ≤ x.locals ∧ x.locals ≤ 6)
  | [], i => by
    obtain ⟨r, h1, h2⟩ := hk
    exact ⟨r, h1, fun h => ⟨h2 h, by simp⟩⟩
  | x :: l, i => by
    obtain ⟨r, h1, h2⟩ := check_loop7 k Q hk l (i + 1)
    have e : eachI source_Check_b7 k (i : Int) (x :: l) () = source_Check_b7 (i : Int) x () (eachI source_Check_b7 k ((i + 1 : Nat) : Int) l) := rfl
    rw [e]
    generalize eachI source_Check_b7 k ((i + 1 : Nat) : Int) l = nx at h1 ⊢
    unfold source_Check_b7
    generalize hA : ((((decide ((x.params : Int) < 0) || decide ((3 : Int) < x.params)) || decide ((x.locals : Int) < x.params)) || decide ((6 : Int) < x.locals)) || (decide ((i : Int) = 0) && decide ((0 : Int) < x.params))) = A
    cases A with
    | true => exact ⟨3, rfl, fun h => absurd h (by decide)⟩
    | false =>
      simp only [Bool.or_eq_false_iff, decide_eq_false_iff_not] at hA
      refine ⟨r, h1, fun hr => ⟨(h2 hr).1, fun y hy => ?_⟩⟩
      rcases List.mem_cons.1 hy with rfl | hy
      · omega
      · exact (h2 hr).2 y hy
theorem check_tot (N : Nat) (hN : 10 ≤ N) (a : List Fun) (h : ∀ x ∈ a, SizeOf.sizeOf x.body < N) : ∃ r, source_Check N a = some r ∧ (r = 0 → ProgOk a) := by
  unfold source_Check
  generalize hA : (decide (((a.length : Int) : Int) = 0) || decide ((4 : Int) < (a.length : Int))) = A
  cases A with
  | true => exact ⟨2, rfl, fun h => absurd h (by decide)⟩
  | false =>
    simp only [Bool.or_eq_false_iff, decide_eq_false_iff_not] at hA
    rw [cond_false]
    obtain ⟨r, h1, h2⟩ := check_loop7 (source_Check_k8 N a) (∀ x ∈ a, BlkOk (psOf a) x.locals 4 x.body) (check_loop5 N a hN a h) a 0
    exact ⟨r, h1, fun hr => ⟨by omega, fun x hx => ⟨((h2 hr).2 x hx).1, ((h2 hr).2 x hx).2, (h2 hr).1 x hx⟩⟩⟩
end Go.Proofs.YtckocfgmnlhcmaaGreatDoor

namespace Go.Proofs.YtckocfgmnlhcmaaGreatDoor
open Go Go.Proofs Go.LX
def Bd (w : List Str) : Prop := ∀ x ∈ w, x.length ≤ 60000
/-- What a reader's step does, told by the plain reading: p. -/
structure RelS {α : Type} (ps : List Int) (b : Bool) (m : Nat) (p : Option (α × List Str)) (a : α) (sx : Reader) : Prop where
  par : sx.params = ps
  bd : Bd sx.w
  len : sx.bad = false → sx.w.length ≤ m
  keep : b = true → sx.bad = true
  no : b = false → p = none → sx.bad = true
  yes : b = false → ∀ q, p = some q → q.1 = a ∧ sx = ⟨q.2, ps, false⟩
theorem RelS.bind {α β : Type} {ps : List Int} {b : Bool} {m : Nat} {p : Option (α × List Str)} {a : α} {sx1 sx2 : Reader} {g : α → List Str → Option (β × List Str)} {c : β} (r1 : RelS ps b m p a sx1) (r2 : RelS ps sx1.bad sx1.w.length (g a sx1.w) c sx2) :
    RelS ps b m (p.bind fun q => g q.1 q.2) c sx2 := by
  have hnb : sx2.bad = false → sx1.bad = false := fun h => by
    cases e : sx1.bad with
    | false => rfl
    | true => rw [r2.keep e] at h; cases h
  refine ⟨r2.par, r2.bd, fun h => Nat.le_trans (r2.len h) (r1.len (hnb h)), fun h => r2.keep (r1.keep h), fun h hn => ?_, fun h q hq => ?_⟩
  · cases e : p with
    | none => exact r2.keep (r1.no h e)
    | some q1 =>
      obtain ⟨h1, h2⟩ := r1.yes h q1 e
      rw [e, Option.bind_some, h1] at hn
      have hb : sx1.bad = false := by rw [h2]
      exact r2.no hb (by rw [h2]; exact hn)
  · cases e : p with
    | none => rw [e] at hq; cases hq
    | some q1 =>
      obtain ⟨h1, h2⟩ := r1.yes h q1 e
      rw [e, Option.bind_some, h1] at hq
      have hb : sx1.bad = false := by rw [h2]
      exact r2.yes hb q (by rw [h2]; exact hq)
theorem RelS.pure {α : Type} {ps : List Int} {sx : Reader} (hp : sx.params = ps) (hb : Bd sx.w) (a : α) : RelS ps sx.bad sx.w.length (some (a, sx.w)) a sx := by
  refine ⟨hp, hb, fun _ => Nat.le_refl _, fun h => h, (fun _ h => by cases h), fun h q hq => ?_⟩
  cases hq
  exact ⟨rfl, by obtain ⟨w, p, b⟩ := sx; simp only at hp h; subst hp h; rfl⟩
theorem RelS.fail {α : Type} {ps : List Int} {b : Bool} {m : Nat} {p : Option (α × List Str)} {a : α} {sx : Reader} (hp : sx.params = ps) (hb : Bd sx.w) (h : sx.bad = true) (hn : b = false → p = none) : RelS ps b m p a sx :=
  ⟨hp, hb, fun h' => by (rw [h] at h'; cases h'), fun _ => h, fun _ _ => h, fun hb q hq => by (rw [hn hb] at hq; cases hq)⟩
theorem RelS.mono {α : Type} {ps : List Int} {b : Bool} {m m' : Nat} {p : Option (α × List Str)} {a : α} {sx : Reader} (h : RelS ps b m p a sx) (hm : b = false → m ≤ m') : RelS ps b m' p a sx := by
  refine ⟨h.par, h.bd, fun hb => ?_, h.keep, h.no, h.yes⟩
  cases b with
  | true => rw [h.keep rfl] at hb; cases hb
  | false => exact Nat.le_trans (h.len hb) (hm rfl)
theorem next_rel {ps : List Int} (sx : Reader) (hp : sx.params = ps) (hb : Bd sx.w) : ∃ a sx', words_reader_next sx = some (a, sx') ∧ RelS ps sx.bad (sx.w.length - 1) (nextP sx.w) a sx' ∧ a.length ≤ 60000 ∧ sx'.w.length ≤ sx.w.length := by
  obtain ⟨w, p, b⟩ := sx
  simp only at hp hb
  subst hp
  unfold words_reader_next
  cases w with
  | nil =>
    rw [dT (by rfl), cond_true]
    exact ⟨_, _, rfl, .fail rfl hb rfl (fun _ => rfl), by simp, Nat.le_refl _⟩
  | cons s r =>
    simp only
    rw [dF (by simp only [List.length_cons]; omega), cond_false, show idx (s :: r) 0 = some s by simp [idx], Option.bind_some]
    have e : sub? (s :: r) 1 ((s :: r).length : Int) = some r := by
      have := sub_s (l := s :: r) (a := 1) (b := (s :: r).length) (by simp) (Nat.le_refl _)
      rw [show (1 : Int) = ((1 : Nat) : Int) from rfl, this]; simp
    rw [e, Option.bind_some]
    refine ⟨_, _, rfl, ⟨rfl, fun x hx => hb x (List.mem_cons_of_mem _ hx), fun _ => by simp, fun h => h, (fun _ h => by cases h), fun h q hq => ?_⟩, hb s (by simp), by simp⟩
    cases hq
    obtain rfl : b = false := h
    exact ⟨rfl, rfl⟩
theorem hasPre_eq (a b : Str) (ha : a.length ≤ 60000) : stringslite_HasPrefix a b = some (decide (a.take b.length = b)) := by
  unfold stringslite_HasPrefix
  by_cases h : b.length ≤ a.length
  · rw [dT (by omega), cond_true]
    have : subs? a 0 (b.length : Int) = some (a.take b.length) := by
      unfold subs?
      rw [grd_t (by omega)]
      simp [cut]
    rw [this, Option.bind_some]
  · rw [dF (by omega), cond_false, dF (fun e => h (by have := congrArg List.length e; rw [List.length_take] at this; omega))]
theorem cutPre_eq (a b : Str) (ha : a.length ≤ 60000) : strings_CutPrefix a b = some (if a.take b.length = b then (a.drop b.length, true) else (a, false)) := by
  unfold strings_CutPrefix stringslite_CutPrefix
  rw [hasPre_eq a b ha, Option.bind_some]
  by_cases h : a.take b.length = b
  · rw [dT h, Bool.not_true, cond_false, if_pos h]
    have hl : b.length ≤ a.length := by have := congrArg List.length h; rw [List.length_take] at this; omega
    have : subs? a (b.length : Int) (a.length : Int) = some (a.drop b.length) := by
      unfold subs?
      rw [grd_t (by omega)]
      simp [cut]
    rw [this]; rfl
  · rw [dF h, Bool.not_false, cond_true, if_neg h]; rfl
theorem hasPre2 (a b : Str) (ha : a.length ≤ 60000) : strings_HasPrefix a b = some (decide (a.take b.length = b)) := by
  unfold strings_HasPrefix
  rw [hasPre_eq a b ha]; rfl
theorem number_eq (sx : Reader) (a b : Str) (ha : a.length ≤ 60000) : ∃ n, words_reader_number sx a b = some (n, ⟨sx.w, sx.params, sx.bad || (numP b a).isNone⟩) ∧ ∀ m, numP b a = some m → n = m := by
  obtain ⟨w, p, bad⟩ := sx
  unfold words_reader_number words_reader_number_j2
  rw [cutPre_eq a b ha, Option.bind_some]
  unfold numP
  by_cases h : a.take b.length = b
  · rw [if_pos h, if_pos h]
    simp only
    have hl : (a.drop b.length).length ≤ 60000 := by rw [List.length_drop]; omega
    generalize a.drop b.length = r at hl
    rw [atoiS_eq (by omega), Option.bind_some]
    unfold numOf
    cases e : Lib.atoiAll r with
    | ok v =>
      simp only [Bool.not_true, Bool.or_self, cond_false]
      rw [itoaS_eq (Lib.atoiAll_bounds e), Option.bind_some]
      by_cases h2 : Lib.itoa v = r
      · rw [dF (by simpa using h2), if_pos h2]
        exact ⟨v, by cases bad <;> rfl, (fun m hm => by cases hm; rfl)⟩
      · rw [dT h2, if_neg h2]
        exact ⟨v, by cases bad <;> rfl, fun m hm => by cases hm⟩
    | _ =>
      simp only [Bool.not_true, Bool.or_true, cond_true]
      exact ⟨_, by cases bad <;> rfl, fun m hm => by cases hm⟩
  · rw [if_neg h, if_neg h]
    simp only
    rw [atoiS_eq (by omega), Option.bind_some]
    cases e : Lib.atoiAll a <;> exact ⟨_, by cases bad <;> rfl, fun m hm => by cases hm⟩
theorem number_rel {ps : List Int} (sx : Reader) (a b : Str) (ha : a.length ≤ 60000) (hp : sx.params = ps) (hb : Bd sx.w) : ∃ n sx', words_reader_number sx a b = some (n, sx') ∧ RelS ps sx.bad sx.w.length (numR b a sx.w) n sx' ∧ sx'.w = sx.w := by
  obtain ⟨n, h1, h2⟩ := number_eq sx a b ha
  refine ⟨n, _, h1, ?_, rfl⟩
  unfold numR
  cases e : numP b a with
  | none => exact .fail hp hb (by simp) (fun _ => rfl)
  | some m =>
    have := h2 m e
    subst this
    have e2 : (⟨sx.w, sx.params, sx.bad || (some n : Option Int).isNone⟩ : Reader) = sx := by obtain ⟨w, p, bad⟩ := sx; simp
    rw [e2]
    exact RelS.pure hp hb n
theorem index_none (l : List Str) (s : Str) (h : s ∉ l) : slices_Index_string l s = some (-1) := by
  unfold slices_Index_string
  have key : ∀ (m i : Nat), i + m = l.length → upto (slices_Index_string_b3 l s) slices_Index_string_k4 (i : Int) m () = some (-1) := by
    intro m
    induction m with
    | zero => intro i _; rfl
    | succ m ih =>
      intro i hi
      have h1 : i < l.length := by omega
      have ih' := ih (i + 1) (by omega)
      show slices_Index_string_b3 l s (i : Int) () (upto _ _ ((i : Int) + 1) m) = _
      rw [show ((i + 1 : Nat) : Int) = (i : Int) + 1 from rfl] at ih'
      generalize upto (slices_Index_string_b3 l s) slices_Index_string_k4 ((i : Int) + 1) m = nx at ih' ⊢
      unfold slices_Index_string_b3
      rw [idx_lt h1, Option.bind_some, dF (fun e => h (by rw [e]; exact List.getElem_mem h1)), cond_false]
      exact ih'
  rw [Int.toNat_natCast]
  exact key l.length 0 (by omega)
def tokE (x26 : List Tok) (x27 : Int) (nx37 : List Tok × Int × List Str × List Int × Bool → Option (List Tok × Reader)) (s : Str) (sx : Reader) : Option (List Tok × Reader) :=
  (slices_Contains_string ([[43], [45], [42], [60], [61]] : List Str) s).bind fun y70 => bif y70 then (slices_Index_string ([[], [43], [45], [42], [60], [61]] : List Str) s).bind fun y74 => words_reader_expr_j12 x26 x27 nx37 2 sx.w sx.params sx.bad 3 y74 else (strings_HasPrefix s [118]).bind fun y77 => bif y77 then (words_reader_number sx s [118]).bind fun y82 => words_reader_expr_j12 x26 x27 nx37 0 y82.2.w y82.2.params y82.2.bad 2 y82.1 else (strings_HasPrefix s [46]).bind fun y91 => bif y91 then (words_reader_number sx s [46]).bind fun y96 => words_reader_expr_j12 x26 x27 nx37 1 y96.2.w y96.2.params y96.2.bad 4 y96.1 else (strings_HasPrefix s [110, 101, 119]).bind fun y105 => bif y105 then (words_reader_number sx s [110, 101, 119]).bind fun y110 => words_reader_expr_j12 x26 x27 nx37 0 y110.2.w y110.2.params y110.2.bad 5 y110.1 else (strings_HasPrefix s [102]).bind fun y119 => bif y119 then (words_reader_number sx s [102]).bind fun y124 => bif (decide ((0 : Int) ≤ y124.1) && decide ((y124.1 : Int) < (y124.2.params.length : Int))) then (idx y124.2.params y124.1).bind fun x134 => words_reader_expr_j12 x26 x27 nx37 x134 y124.2.w y124.2.params y124.2.bad 6 y124.1 else words_reader_expr_j12 x26 x27 nx37 0 y124.2.w y124.2.params y124.2.bad 6 y124.1 else (words_reader_number sx s []).bind fun y142 => words_reader_expr_j12 x26 x27 nx37 0 y142.2.w y142.2.params y142.2.bad 1 y142.1
theorem b14_eq (acc : List Tok) (want : Int) (w : List Str) (ps : List Int) (bad : Bool) (nx : List Tok × Int × List Str × List Int × Bool → Option (List Tok × Reader)) :
    words_reader_expr_b14 (acc, want, w, ps, bad) nx = bif (decide ((0 : Int) < want) && (!bad)) then (words_reader_next ⟨w, ps, bad⟩).bind fun y => tokE acc want nx y.1 y.2 else some (acc, ⟨w, ps, bad⟩) := rfl
theorem callN_bd {ps : List Int} (h : ∀ n ∈ ps, 0 ≤ n ∧ n ≤ 3) (n : Int) : 0 ≤ callN ps n ∧ callN ps n ≤ 3 := by
  unfold callN
  split
  · rename_i hn
    have hl : n.toNat < ps.length := by omega
    rw [List.getElem?_eq_getElem hl]
    exact h _ (List.getElem_mem hl)
  · omega
theorem tok_step (acc : List Tok) (want : Int) (nx : List Tok × Int × List Str × List Int × Bool → Option (List Tok × Reader)) (s : Str) (sx : Reader) (hs : s.length ≤ 60000) (hps : ∀ n ∈ sx.params, 0 ≤ n ∧ n ≤ 3) :
    ∃ t n bad', tokE acc want nx s sx = words_reader_expr_j12 acc want nx n sx.w sx.params bad' (Tok.kind t) t.n ∧ (sx.bad = true → bad' = true) ∧ (tokP sx.params s = none → bad' = true) ∧ (∀ q, tokP sx.params s = some q → t = q.1 ∧ n = q.2 ∧ bad' = sx.bad) ∧ 0 ≤ n ∧ n ≤ 3 := by
  unfold tokE tokP
  by_cases h1 : s = [43]
  · subst h1; exact ⟨⟨3, 1⟩, 2, sx.bad, rfl, fun h => h, (fun h => by cases h), (fun q hq => by cases hq; exact ⟨rfl, rfl, rfl⟩), by decide, by decide⟩
  by_cases h2 : s = [45]
  · subst h2; exact ⟨⟨3, 2⟩, 2, sx.bad, rfl, fun h => h, (fun h => by cases h), (fun q hq => by cases hq; exact ⟨rfl, rfl, rfl⟩), by decide, by decide⟩
  by_cases h3 : s = [42]
  · subst h3; exact ⟨⟨3, 3⟩, 2, sx.bad, rfl, fun h => h, (fun h => by cases h), (fun q hq => by cases hq; exact ⟨rfl, rfl, rfl⟩), by decide, by decide⟩
  by_cases h4 : s = [60]
  · subst h4; exact ⟨⟨3, 4⟩, 2, sx.bad, rfl, fun h => h, (fun h => by cases h), (fun q hq => by cases hq; exact ⟨rfl, rfl, rfl⟩), by decide, by decide⟩
  by_cases h5 : s = [61]
  · subst h5; exact ⟨⟨3, 5⟩, 2, sx.bad, rfl, fun h => h, (fun h => by cases h), (fun q hq => by cases hq; exact ⟨rfl, rfl, rfl⟩), by decide, by decide⟩
  rw [if_neg h1, if_neg h2, if_neg h3, if_neg h4, if_neg h5]
  have e0 : slices_Contains_string ([[43], [45], [42], [60], [61]] : List Str) s = some false := by
    unfold slices_Contains_string
    rw [index_none _ _ (by simp [h1, h2, h3, h4, h5])]
    rfl
  have p1 : ∀ c : UInt8, strings_HasPrefix s [c] = some (decide (s.take 1 = [c])) := fun c => hasPre2 s [c] hs
  have p3 : strings_HasPrefix s [110, 101, 119] = some (decide (s.take 3 = [110, 101, 119])) := hasPre2 s _ hs
  rw [e0, Option.bind_some, cond_false, p1, Option.bind_some]
  have mk : ∀ (b : Str) (k : Int) (cn : Int → Int), (∀ n, 0 ≤ cn n ∧ cn n ≤ 3) → ∀ (X : Int × Reader → Option (List Tok × Reader)), (∀ n bad, X (n, ⟨sx.w, sx.params, bad⟩) = words_reader_expr_j12 acc want nx (cn n) sx.w sx.params bad k n) →
      ∃ t n bad', (words_reader_number sx s b).bind X = words_reader_expr_j12 acc want nx n sx.w sx.params bad' (Tok.kind t) t.n ∧ (sx.bad = true → bad' = true) ∧ (((numP b s).bind fun n => some ((⟨k, n⟩ : Tok), cn n)) = none → bad' = true) ∧ (∀ q, ((numP b s).bind fun n => some ((⟨k, n⟩ : Tok), cn n)) = some q → t = q.1 ∧ n = q.2 ∧ bad' = sx.bad) ∧ 0 ≤ n ∧ n ≤ 3 := by
    intro b k cn hcn X hX
    obtain ⟨n, g1, g2⟩ := number_eq sx s b hs
    rw [g1, Option.bind_some, hX]
    refine ⟨⟨k, n⟩, cn n, _, rfl, fun h => by rw [h]; rfl, fun h => ?_, fun q hq => ?_, (hcn n).1, (hcn n).2⟩
    · cases e : numP b s with
      | none => simp
      | some m => rw [e] at h; cases h
    · cases e : numP b s with
      | none => rw [e] at hq; cases hq
      | some m =>
        rw [e] at hq; cases hq
        rw [g2 m e]
        exact ⟨rfl, rfl, by simp⟩
  by_cases h6 : s.take 1 = [118]
  · rw [dT h6, cond_true, if_pos h6]
    exact mk [118] 2 (fun _ => 0) (by simp) _ (fun n bad => rfl)
  rw [dF h6, cond_false, if_neg h6, p1, Option.bind_some]
  by_cases h7 : s.take 1 = [46]
  · rw [dT h7, cond_true, if_pos h7]
    exact mk [46] 4 (fun _ => 1) (by simp) _ (fun n bad => rfl)
  rw [dF h7, cond_false, if_neg h7, p3, Option.bind_some]
  by_cases h8 : s.take 3 = [110, 101, 119]
  · rw [dT h8, cond_true, if_pos h8]
    exact mk [110, 101, 119] 5 (fun _ => 0) (by simp) _ (fun n bad => rfl)
  rw [dF h8, cond_false, if_neg h8, p1, Option.bind_some]
  by_cases h9 : s.take 1 = [102]
  · rw [dT h9, cond_true, if_pos h9]
    refine mk [102] 6 (fun n => callN sx.params n) (fun n => callN_bd hps n) _ (fun n bad => ?_)
    simp only
    by_cases hn : 0 ≤ n ∧ n < sx.params.length
    · rw [dT hn.1, dT hn.2, Bool.and_self, cond_true]
      obtain ⟨m, rfl⟩ := Int.eq_ofNat_of_zero_le hn.1
      have hm : m < sx.params.length := by omega
      rw [idx_lt hm, Option.bind_some]
      congr 1
      simp [callN, hm]
    · rw [show (decide ((0 : Int) ≤ n) && decide ((n : Int) < (sx.params.length : Int))) = false by simp only [Bool.and_eq_false_iff, decide_eq_false_iff_not]; omega, cond_false]
      congr 1
      unfold callN
      rw [if_neg hn]
  rw [dF h9, cond_false, if_neg h9]
  exact mk [] 1 (fun _ => 0) (by simp) _ (fun n bad => rfl)
theorem expr_bad (N : Nat) (acc : List Tok) (want : Int) (w : List Str) (ps : List Int) : again words_reader_expr_b14 (N + 1) (acc, want, w, ps, true) = some (acc, ⟨w, ps, true⟩) := by
  show words_reader_expr_b14 (acc, want, w, ps, true) _ = _
  rw [b14_eq, Bool.not_true, Bool.and_false]; rfl
theorem expr_loop2 {ps : List Int} (hps : ∀ n ∈ ps, 0 ≤ n ∧ n ≤ 3) : ∀ (w : List Str) (N : Nat) (acc : List Tok) (want : Int), w.length + 2 ≤ N → Bd w → acc.length ≤ 24 → 0 ≤ want → want ≤ 1 + 2 * acc.length →
    ∃ e sx', again words_reader_expr_b14 N (acc, want, w, ps, false) = some (e, sx') ∧ RelS ps false w.length (exprP ps w acc want) e sx'
  | w, 0, acc, want, hN, _, _, _, _ => by omega
  | [], N + 1, acc, want, hN, hb, hacc, hw0, hw => by
    show ∃ e sx', words_reader_expr_b14 (acc, want, [], ps, false) (again words_reader_expr_b14 N) = some (e, sx') ∧ _
    rw [b14_eq]
    by_cases h : 0 < want
    · rw [dT h, Bool.not_false, Bool.and_self, cond_true]
      have e1 : words_reader_next ⟨[], ps, false⟩ = some ([], ⟨[], ps, true⟩) := rfl
      rw [e1, Option.bind_some]
      obtain ⟨t, n, bad', g1, g2, g3, g4, g5, g6⟩ := tok_step acc want (again words_reader_expr_b14 N) [] ⟨[], ps, true⟩ (by simp) hps
      rw [g1, g2 rfl]
      simp only
      unfold words_reader_expr_j12 words_reader_expr_j13
      rw [grd_t ⟨by simp only [List.length_singleton]; omega, by simp only [List.length_singleton]; omega⟩]
      obtain ⟨M, rfl⟩ : ∃ M, N = M + 1 := ⟨N - 1, by simp at hN; omega⟩
      have e2 : ∀ b : Bool, (bif b then grd (I64 (n - 1)) (grd (I64 (want + (n - 1))) (again words_reader_expr_b14 (M + 1) (acc ++ [(⟨t.kind, t.n⟩ : Tok)], want + (n - 1), [], ps, true))) else grd (I64 (n - 1)) (grd (I64 (want + (n - 1))) (again words_reader_expr_b14 (M + 1) (acc ++ [(⟨t.kind, t.n⟩ : Tok)], want + (n - 1), [], ps, true)))) = some (acc ++ [(⟨t.kind, t.n⟩ : Tok)], ⟨[], ps, true⟩) := by
        intro b
        have : grd (I64 (n - 1)) (grd (I64 (want + (n - 1))) (again words_reader_expr_b14 (M + 1) (acc ++ [(⟨t.kind, t.n⟩ : Tok)], want + (n - 1), [], ps, true))) = some (acc ++ [(⟨t.kind, t.n⟩ : Tok)], ⟨[], ps, true⟩) := by
          rw [gI (by omega) (by omega), gI (by omega) (by omega), expr_bad]
        cases b <;> exact this
      rw [e2]
      exact ⟨_, _, rfl, .fail rfl hb rfl (fun _ => by unfold exprP; rw [if_pos h])⟩
    · rw [dF h, Bool.false_and, cond_false]
      exact ⟨_, _, rfl, by unfold exprP; rw [if_neg h]; exact RelS.pure (sx := ⟨[], ps, false⟩) rfl hb acc⟩
  | s :: r, N + 1, acc, want, hN, hb, hacc, hw0, hw => by
    show ∃ e sx', words_reader_expr_b14 (acc, want, s :: r, ps, false) (again words_reader_expr_b14 N) = some (e, sx') ∧ _
    rw [b14_eq]
    have hbr : Bd r := fun x hx => hb x (List.mem_cons_of_mem _ hx)
    by_cases h : 0 < want
    · rw [dT h, Bool.not_false, Bool.and_self, cond_true]
      have e1 : words_reader_next ⟨s :: r, ps, false⟩ = some (s, ⟨r, ps, false⟩) := by
        unfold words_reader_next
        simp only
        rw [dF (by simp only [List.length_cons]; omega), cond_false, show idx (s :: r) 0 = some s by simp [idx], Option.bind_some]
        have e : sub? (s :: r) 1 ((s :: r).length : Int) = some r := by
          have := sub_s (l := s :: r) (a := 1) (b := (s :: r).length) (by simp) (Nat.le_refl _)
          rw [show (1 : Int) = ((1 : Nat) : Int) from rfl, this]; simp
        rw [e]; rfl
      rw [e1, Option.bind_some]
      obtain ⟨t, n, bad', g1, g2, g3, g4, g5, g6⟩ := tok_step acc want (again words_reader_expr_b14 N) s ⟨r, ps, false⟩ (hb s (by simp)) hps
      rw [g1]
      simp only
      unfold words_reader_expr_j12 words_reader_expr_j13
      rw [grd_t ⟨by simp only [List.length_singleton]; omega, by simp only [List.length_singleton]; omega⟩]
      simp only [List.length_cons] at hN
      obtain ⟨M, rfl⟩ : ∃ M, N = M + 1 := ⟨N - 1, by omega⟩
      have ht : (⟨t.kind, t.n⟩ : Tok) = t := rfl
      rw [ht]
      unfold exprP
      rw [if_pos h]
      have failing : ∀ p : Option (List Tok × List Str), p = none → ∃ e sx', grd (I64 (n - 1)) (grd (I64 (want + (n - 1))) (again words_reader_expr_b14 (M + 1) (acc ++ [t], want + (n - 1), r, ps, true))) = some (e, sx') ∧ RelS ps false (s :: r).length p e sx' := by
        intro p hp
        rw [gI (by omega) (by omega), gI (by omega) (by omega), expr_bad]
        exact ⟨_, _, rfl, .fail rfl hbr rfl (fun _ => hp)⟩
      by_cases h24 : 24 < acc.length + 1
      · rw [dT (by simp only [List.length_append, List.length_singleton]; omega), cond_true]
        refine failing _ ?_
        cases e : tokP ps s with
        | none => rfl
        | some q => rw [Option.bind_some, if_pos h24]
      · rw [dF (by simp only [List.length_append, List.length_singleton]; omega), cond_false]
        cases e : tokP ps s with
        | none =>
          rw [g3 e]
          exact failing _ rfl
        | some q =>
          obtain ⟨q1, q2, q3⟩ := g4 q e
          simp only at q3
          subst q1 q2 q3
          rw [Option.bind_some, if_neg h24, gI (by omega) (by omega), gI (by omega) (by omega)]
          obtain ⟨e', sx', i1, i2⟩ := expr_loop2 hps r (M + 1) (acc ++ [q.1]) (want + (q.2 - 1)) (by omega) hbr (by simp only [List.length_append, List.length_singleton]; omega) (by omega) (by simp only [List.length_append, List.length_singleton]; omega)
          exact ⟨e', sx', i1, i2.mono (fun _ => by simp)⟩
    · rw [dF h, Bool.false_and, cond_false]
      exact ⟨_, _, rfl, by unfold exprP; rw [if_neg h]; exact RelS.pure (sx := ⟨s :: r, ps, false⟩) rfl hb acc⟩
theorem expr_rel {ps : List Int} (hps : ∀ n ∈ ps, 0 ≤ n ∧ n ≤ 3) (N : Nat) (sx : Reader) (hp : sx.params = ps) (hb : Bd sx.w) (hN1 : 1 ≤ N) (hN : sx.bad = false → sx.w.length + 2 ≤ N) : ∃ e sx', words_reader_expr N sx = some (e, sx') ∧ RelS ps sx.bad sx.w.length (exprP ps sx.w [] 1) e sx' := by
  obtain ⟨w, p, bad⟩ := sx
  simp only at hp hb hN
  subst hp
  unfold words_reader_expr
  cases bad with
  | true =>
    obtain ⟨M, rfl⟩ : ∃ M, N = M + 1 := ⟨N - 1, by omega⟩
    exact ⟨_, _, expr_bad _ _ _ _ _, .fail rfl hb rfl (fun h => by cases h)⟩
  | false => exact expr_loop2 hps w N [] 1 (hN rfl) hb (by decide) (by decide) (by decide)
end Go.Proofs.YtckocfgmnlhcmaaGreatDoor

namespace Go.Proofs.YtckocfgmnlhcmaaGreatDoor
open Go Go.Proofs Go.LX
def stE (N : Nat) (F0 : Reader → Int → Option (List GStmt × Reader)) (a : Int) (x28 : List GStmt) (nx38 : List GStmt × List Str × List Int × Bool → Option (List GStmt × Reader)) (s : Str) (sx : Reader) : Option (List GStmt × Reader) :=
  bif decide ((s : Str) = [125]) then some (x28, sx) else bif decide ((s : Str) = [115, 101, 116]) then (words_reader_next sx).bind fun y74 => (words_reader_number y74.2 y74.1 []).bind fun y84 => (words_reader_expr N y84.2).bind fun y94 => words_reader_block_j8 x28 nx38 y94.2.w y94.2.params y94.2.bad 1 y84.1 y94.1 [] [] [] else bif decide ((s : Str) = [112, 117, 116]) then (words_reader_next sx).bind fun y107 => (words_reader_number y107.2 y107.1 []).bind fun y117 => (words_reader_expr N y117.2).bind fun y127 => (words_reader_expr N y127.2).bind fun y139 => words_reader_block_j8 x28 nx38 y139.2.w y139.2.params y139.2.bad 2 y117.1 y127.1 y139.1 [] [] else bif decide ((s : Str) = [115, 97, 121]) then (words_reader_expr N sx).bind fun y152 => words_reader_block_j8 x28 nx38 y152.2.w y152.2.params y152.2.bad 3 0 y152.1 [] [] [] else bif decide ((s : Str) = [112, 97, 117, 115, 101]) then words_reader_block_j8 x28 nx38 sx.w sx.params sx.bad 4 0 [] [] [] [] else bif decide ((s : Str) = [103, 111]) then (words_reader_expr N sx).bind fun y166 => words_reader_block_j8 x28 nx38 y166.2.w y166.2.params y166.2.bad 5 0 y166.1 [] [] [] else bif decide ((s : Str) = [105, 102]) then (words_reader_expr N sx).bind fun y179 => grd (I64 (a + 1)) ((F0 y179.2 (a + 1)).bind fun y192 => grd (I64 (a + 1)) ((F0 y192.2 (a + 1)).bind fun y205 => words_reader_block_j8 x28 nx38 y205.2.w y205.2.params y205.2.bad 6 0 y179.1 [] y192.1 y205.1)) else bif decide ((s : Str) = [119, 104, 105, 108, 101]) then (words_reader_expr N sx).bind fun y218 => grd (I64 (a + 1)) ((F0 y218.2 (a + 1)).bind fun y231 => words_reader_block_j8 x28 nx38 y231.2.w y231.2.params y231.2.bad 7 0 y218.1 [] y231.1 []) else bif decide ((s : Str) = [114, 101, 116, 117, 114, 110]) then (words_reader_expr N sx).bind fun y244 => words_reader_block_j8 x28 nx38 y244.2.w y244.2.params y244.2.bad 8 0 y244.1 [] [] [] else words_reader_block_j8 x28 nx38 sx.w sx.params true 0 0 [] [] [] []
theorem b9_eq (N : Nat) (F0 : Reader → Int → Option (List GStmt × Reader)) (a : Int) (acc : List GStmt) (w : List Str) (ps : List Int) (bad : Bool) (nx : List GStmt × List Str × List Int × Bool → Option (List GStmt × Reader)) :
    words_reader_block_b9 N F0 a (acc, w, ps, bad) nx = bif (!bad) then (words_reader_next ⟨w, ps, bad⟩).bind fun y => stE N F0 a acc nx y.1 y.2 else some ([], ⟨w, ps, bad⟩) := rfl
/-- The rest of a statement, behind its word. -/
def stG (ps : List Int) (blk : List Str → Option (List GStmt × List Str)) (s : Str) (w : List Str) : Option (Option GStmt × List Str) :=
  if s = [125] then some (none, w)
  else if s = [115, 101, 116] then (nextP w).bind fun u => (numR [] u.1 u.2).bind fun n => (exprP ps n.2 [] 1).bind fun e => some (some ⟨1, n.1, e.1, [], [], []⟩, e.2)
  else if s = [112, 117, 116] then (nextP w).bind fun u => (numR [] u.1 u.2).bind fun n => (exprP ps n.2 [] 1).bind fun e => (exprP ps e.2 [] 1).bind fun f => some (some ⟨2, n.1, e.1, f.1, [], []⟩, f.2)
  else if s = [115, 97, 121] then (exprP ps w [] 1).bind fun e => some (some ⟨3, 0, e.1, [], [], []⟩, e.2)
  else if s = [112, 97, 117, 115, 101] then some (some ⟨4, 0, [], [], [], []⟩, w)
  else if s = [103, 111] then (exprP ps w [] 1).bind fun e => some (some ⟨5, 0, e.1, [], [], []⟩, e.2)
  else if s = [105, 102] then (exprP ps w [] 1).bind fun e => (blk e.2).bind fun a => (blk a.2).bind fun b => some (some ⟨6, 0, e.1, [], a.1, b.1⟩, b.2)
  else if s = [119, 104, 105, 108, 101] then (exprP ps w [] 1).bind fun e => (blk e.2).bind fun a => some (some ⟨7, 0, e.1, [], a.1, []⟩, a.2)
  else if s = [114, 101, 116, 117, 114, 110] then (exprP ps w [] 1).bind fun e => some (some ⟨8, 0, e.1, [], [], []⟩, e.2)
  else none
theorem stP_G (ps : List Int) (blk : List Str → Option (List GStmt × List Str)) (w : List Str) : stP ps blk w = (nextP w).bind fun q => stG ps blk q.1 q.2 := rfl
theorem RelS.ok {α : Type} {ps : List Int} {b : Bool} {m : Nat} {p : Option (α × List Str)} {a : α} {sx : Reader} (h : RelS ps b m p a sx) {N : Nat} (hN : b = false → m + 2 ≤ N) : sx.bad = false → sx.w.length + 2 ≤ N := fun hb => by
  have := h.len hb
  cases b with
  | true => rw [h.keep rfl] at hb; cases hb
  | false => have := hN rfl; omega
theorem st_step {ps : List Int} (hps : ∀ n ∈ ps, 0 ≤ n ∧ n ≤ 3) (N : Nat) (F0 : Reader → Int → Option (List GStmt × Reader)) (a : Int) (ha : 0 ≤ a ∧ a ≤ 10) (blk : List Str → Option (List GStmt × List Str)) (K : Nat)
    (hF : ∀ sx : Reader, sx.params = ps → Bd sx.w → (sx.bad = false → sx.w.length + 2 ≤ K) → ∃ l sx', F0 sx (a + 1) = some (l, sx') ∧ RelS ps sx.bad sx.w.length (blk sx.w) l sx')
    (acc : List GStmt) (hacc : acc.length ≤ 60010) (nx : List GStmt × List Str × List Int × Bool → Option (List GStmt × Reader)) (s : Str) (sx : Reader) (hp : sx.params = ps) (hb : Bd sx.w) (hN1 : 1 ≤ N) (hN : sx.bad = false → sx.w.length + 2 ≤ N) (hK : sx.bad = false → sx.w.length + 2 ≤ K) :
    ∃ o sx', stE N F0 a acc nx s sx = (match o with | none => some (acc, sx') | some st => nx (acc ++ [st], sx'.w, sx'.params, sx'.bad)) ∧ RelS ps sx.bad sx.w.length (stG ps blk s sx.w) o sx' := by
  have j8 : ∀ (y44 : List Str) (y46 : List Int) (y47 : Bool) (y48 y49 : Int) (y51 y53 : List Tok) (y55 y57 : List GStmt), words_reader_block_j8 acc nx y44 y46 y47 y48 y49 y51 y53 y55 y57 = nx (acc ++ [⟨y48, y49, y51, y53, y55, y57⟩], y44, y46, y47) := fun _ _ _ _ _ _ _ _ _ => by
    unfold words_reader_block_j8
    rw [grd_t ⟨by simp only [List.length_singleton]; omega, by simp only [List.length_singleton]; omega⟩]
  unfold stE stG
  by_cases h1 : s = [125]
  · rw [dT h1, cond_true, if_pos h1]
    exact ⟨none, sx, rfl, RelS.pure hp hb _⟩
  rw [dF h1, cond_false, if_neg h1]
  by_cases h2 : s = [115, 101, 116]
  · rw [dT h2, cond_true, if_pos h2]
    obtain ⟨u, s1, e1, r1, hu, hl1⟩ := next_rel sx hp hb
    have r1 := r1.mono (m' := sx.w.length) (fun _ => by omega)
    obtain ⟨n, s2, e2, r2, hw2⟩ := number_rel s1 u [] hu r1.par r1.bd
    obtain ⟨e, s3, e3, r3⟩ := expr_rel hps N s2 r2.par r2.bd hN1 (r2.ok (r1.ok hN))
    rw [e1, Option.bind_some]
    simp only
    rw [e2, Option.bind_some]
    simp only
    rw [e3, Option.bind_some]
    simp only
    rw [j8]
    exact ⟨some ⟨1, n, e, [], [], []⟩, s3, rfl, r1.bind (g := fun u w => (numR [] u w).bind fun n => (exprP ps n.2 [] 1).bind fun e => some (some (⟨1, n.1, e.1, [], [], []⟩ : GStmt), e.2)) (r2.bind (g := fun n w => (exprP ps w [] 1).bind fun e => some (some (⟨1, n, e.1, [], [], []⟩ : GStmt), e.2)) (r3.bind (g := fun e w => some (some (⟨1, n, e, [], [], []⟩ : GStmt), w)) (RelS.pure r3.par r3.bd _)))⟩
  rw [dF h2, cond_false, if_neg h2]
  by_cases h3 : s = [112, 117, 116]
  · rw [dT h3, cond_true, if_pos h3]
    obtain ⟨u, s1, e1, r1, hu, hl1⟩ := next_rel sx hp hb
    have r1 := r1.mono (m' := sx.w.length) (fun _ => by omega)
    obtain ⟨n, s2, e2, r2, hw2⟩ := number_rel s1 u [] hu r1.par r1.bd
    obtain ⟨e, s3, e3, r3⟩ := expr_rel hps N s2 r2.par r2.bd hN1 (r2.ok (r1.ok hN))
    obtain ⟨f, s4, e4, r4⟩ := expr_rel hps N s3 r3.par r3.bd hN1 (r3.ok (r2.ok (r1.ok hN)))
    rw [e1, Option.bind_some]
    simp only
    rw [e2, Option.bind_some]
    simp only
    rw [e3, Option.bind_some]
    simp only
    rw [e4, Option.bind_some]
    simp only
    rw [j8]
    exact ⟨some ⟨2, n, e, f, [], []⟩, s4, rfl, r1.bind (g := fun u w => (numR [] u w).bind fun n => (exprP ps n.2 [] 1).bind fun e => (exprP ps e.2 [] 1).bind fun f => some (some (⟨2, n.1, e.1, f.1, [], []⟩ : GStmt), f.2)) (r2.bind (g := fun n w => (exprP ps w [] 1).bind fun e => (exprP ps e.2 [] 1).bind fun f => some (some (⟨2, n, e.1, f.1, [], []⟩ : GStmt), f.2)) (r3.bind (g := fun e w => (exprP ps w [] 1).bind fun f => some (some (⟨2, n, e, f.1, [], []⟩ : GStmt), f.2)) (r4.bind (g := fun f w => some (some (⟨2, n, e, f, [], []⟩ : GStmt), w)) (RelS.pure r4.par r4.bd _))))⟩
  rw [dF h3, cond_false, if_neg h3]
  have one : ∀ k : Int, ∃ o sx', ((words_reader_expr N sx).bind fun y => words_reader_block_j8 acc nx y.2.w y.2.params y.2.bad k 0 y.1 [] [] []) = (match o with | none => some (acc, sx') | some st => nx (acc ++ [st], sx'.w, sx'.params, sx'.bad)) ∧ RelS ps sx.bad sx.w.length ((exprP ps sx.w [] 1).bind fun e => some (some ⟨k, 0, e.1, [], [], []⟩, e.2)) o sx' := by
    intro k
    obtain ⟨e, s3, e3, r3⟩ := expr_rel hps N sx hp hb hN1 hN
    rw [e3, Option.bind_some]
    simp only
    rw [j8]
    exact ⟨some ⟨k, 0, e, [], [], []⟩, s3, rfl, r3.bind (g := fun e w => some (some (⟨k, 0, e, [], [], []⟩ : GStmt), w)) (RelS.pure r3.par r3.bd _)⟩
  by_cases h4 : s = [115, 97, 121]
  · rw [dT h4, cond_true, if_pos h4]
    exact one 3
  rw [dF h4, cond_false, if_neg h4]
  by_cases h5 : s = [112, 97, 117, 115, 101]
  · rw [dT h5, cond_true, if_pos h5, j8]
    exact ⟨some ⟨4, 0, [], [], [], []⟩, sx, rfl, RelS.pure hp hb _⟩
  rw [dF h5, cond_false, if_neg h5]
  by_cases h6 : s = [103, 111]
  · rw [dT h6, cond_true, if_pos h6]
    exact one 5
  rw [dF h6, cond_false, if_neg h6]
  by_cases h7 : s = [105, 102]
  · rw [dT h7, cond_true, if_pos h7]
    obtain ⟨e, s3, e3, r3⟩ := expr_rel hps N sx hp hb hN1 hN
    obtain ⟨la, s4, e4, r4⟩ := hF s3 r3.par r3.bd (r3.ok hK)
    obtain ⟨lb, s5, e5, r5⟩ := hF s4 r4.par r4.bd (r4.ok (r3.ok hK))
    rw [e3, Option.bind_some]
    simp only
    rw [gI (by omega) (by omega), e4, Option.bind_some]
    simp only
    rw [gI (by omega) (by omega), e5, Option.bind_some]
    simp only
    rw [j8]
    exact ⟨some ⟨6, 0, e, [], la, lb⟩, s5, rfl, r3.bind (g := fun e w => (blk w).bind fun a => (blk a.2).bind fun b => some (some (⟨6, 0, e, [], a.1, b.1⟩ : GStmt), b.2)) (r4.bind (g := fun a w => (blk w).bind fun b => some (some (⟨6, 0, e, [], a, b.1⟩ : GStmt), b.2)) (r5.bind (g := fun b w => some (some (⟨6, 0, e, [], la, b⟩ : GStmt), w)) (RelS.pure r5.par r5.bd _)))⟩
  rw [dF h7, cond_false, if_neg h7]
  by_cases h8 : s = [119, 104, 105, 108, 101]
  · rw [dT h8, cond_true, if_pos h8]
    obtain ⟨e, s3, e3, r3⟩ := expr_rel hps N sx hp hb hN1 hN
    obtain ⟨la, s4, e4, r4⟩ := hF s3 r3.par r3.bd (r3.ok hK)
    rw [e3, Option.bind_some]
    simp only
    rw [gI (by omega) (by omega), e4, Option.bind_some]
    simp only
    rw [j8]
    exact ⟨some ⟨7, 0, e, [], la, []⟩, s4, rfl, r3.bind (g := fun e w => (blk w).bind fun a => some (some (⟨7, 0, e, [], a.1, []⟩ : GStmt), a.2)) (r4.bind (g := fun a w => some (some (⟨7, 0, e, [], a, []⟩ : GStmt), w)) (RelS.pure r4.par r4.bd _))⟩
  rw [dF h8, cond_false, if_neg h8]
  by_cases h9 : s = [114, 101, 116, 117, 114, 110]
  · rw [dT h9, cond_true, if_pos h9]
    exact one 8
  rw [dF h9, cond_false, if_neg h9, j8]
  exact ⟨some ⟨0, 0, [], [], [], []⟩, ⟨sx.w, sx.params, true⟩, rfl, .fail hp hb rfl (fun _ => rfl)⟩
theorem blk_bad (NN N : Nat) (F0 : Reader → Int → Option (List GStmt × Reader)) (a : Int) (acc : List GStmt) (w : List Str) (ps : List Int) : again (words_reader_block_b9 NN F0 a) (N + 1) (acc, w, ps, true) = some ([], ⟨w, ps, true⟩) := rfl
theorem blk_loop {ps : List Int} (hps : ∀ n ∈ ps, 0 ≤ n ∧ n ≤ 3) (NN : Nat) (F0 : Reader → Int → Option (List GStmt × Reader)) (a : Int) (ha : 0 ≤ a ∧ a ≤ 10) (blk : List Str → Option (List GStmt × List Str)) (K : Nat)
    (hF : ∀ sx : Reader, sx.params = ps → Bd sx.w → (sx.bad = false → sx.w.length + 2 ≤ K) → ∃ l sx', F0 sx (a + 1) = some (l, sx') ∧ RelS ps sx.bad sx.w.length (blk sx.w) l sx') (hN1 : 1 ≤ NN) :
    ∀ (N n : Nat) (acc : List GStmt) (w : List Str), w.length + 2 ≤ N → w.length < n → w.length + 2 ≤ NN → w.length + 2 ≤ K → Bd w → acc.length + w.length ≤ 60005 →
      ∃ l sx', again (words_reader_block_b9 NN F0 a) N (acc, w, ps, false) = some (l, sx') ∧ RelS ps false w.length (loopP (stP ps blk) n w acc) l sx'
  | 0, n, acc, w, h, _, _, _, _, _ => by omega
  | N + 1, 0, acc, w, _, h, _, _, _, _ => by omega
  | N + 1, n + 1, acc, w, hN, hn, hNN, hK, hb, hacc => by
    show ∃ l sx', words_reader_block_b9 NN F0 a (acc, w, ps, false) (again (words_reader_block_b9 NN F0 a) N) = some (l, sx') ∧ _
    rw [b9_eq, Bool.not_false, cond_true]
    obtain ⟨s, s1, e1, r1, hs, hl1⟩ := next_rel (ps := ps) ⟨w, ps, false⟩ rfl hb
    rw [e1, Option.bind_some]
    have r1' := r1.mono (m' := w.length) (fun _ => Nat.sub_le _ _)
    simp only at hl1
    obtain ⟨o, s2, e2, r2⟩ := st_step hps NN F0 a ha blk K hF acc (by omega) (again (words_reader_block_b9 NN F0 a) N) s s1 r1.par r1.bd hN1 (fun _ => by omega) (fun _ => by omega)
    simp only
    rw [e2]
    have r12 : RelS ps false (w.length - 1) (stP ps blk w) o s2 := by rw [stP_G]; exact r1.bind (g := fun s w => stG ps blk s w) r2
    unfold loopP
    cases o with
    | none =>
      simp only
      refine ⟨acc, s2, rfl, ?_⟩
      refine (r12.mono (fun _ => Nat.sub_le _ _)).bind (g := fun (o : Option GStmt) r => match o with | none => some (acc, r) | some s => loopP (stP ps blk) n r (acc ++ [s])) ?_
      exact RelS.pure r12.par r12.bd acc
    | some st =>
      simp only
      have key : ∃ l sx', again (words_reader_block_b9 NN F0 a) N (acc ++ [st], s2.w, s2.params, s2.bad) = some (l, sx') ∧ RelS ps s2.bad s2.w.length (loopP (stP ps blk) n s2.w (acc ++ [st])) l sx' := by
        obtain ⟨M, rfl⟩ : ∃ M, N = M + 1 := ⟨N - 1, by omega⟩
        cases e : s2.bad with
        | true =>
          rw [blk_bad]
          exact ⟨_, _, rfl, .fail r12.par r12.bd rfl (fun h => by cases h)⟩
        | false =>
          have hl := r12.len e
          have hw : 0 < w.length := by
            cases w with
            | nil =>
              have := r1.no rfl rfl
              rw [r2.keep this] at e; cases e
            | cons x r => simp
          rw [r12.par]
          exact blk_loop hps NN F0 a ha blk K hF hN1 (M + 1) n (acc ++ [st]) s2.w (by omega) (by omega) (by omega) (by omega) r12.bd (by simp only [List.length_append, List.length_singleton]; omega)
      obtain ⟨l, s3, e3, r3⟩ := key
      refine ⟨l, s3, e3, ?_⟩
      exact (r12.mono (fun _ => Nat.sub_le _ _)).bind (g := fun (o : Option GStmt) r => match o with | none => some (acc, r) | some s => loopP (stP ps blk) n r (acc ++ [s])) r3
theorem block_rel {ps : List Int} (hps : ∀ n ∈ ps, 0 ≤ n ∧ n ≤ 3) (n : Nat) (hn : 60005 ≤ n) : ∀ (k : Nat) (a : Int) (N : Nat) (sx : Reader), a + k = 6 → k ≤ 5 → sx.params = ps → Bd sx.w → 60010 + k ≤ N → (sx.bad = false → sx.w.length ≤ 60002) →
    ∃ l sx', words_reader_block N sx a = some (l, sx') ∧ RelS ps sx.bad sx.w.length (blkP ps n k sx.w) l sx'
  | k, a, 0, sx, _, _, _, _, hN, _ => by omega
  | 0, a, N + 1, sx, hak, hk, hp, hb, hN, hw => by
    show ∃ l sx', words_reader_block_r N (words_reader_block N) sx a = some (l, sx') ∧ _
    unfold words_reader_block_r words_reader_block_j1
    obtain ⟨s, s1, e1, r1, hs, hl1⟩ := next_rel sx hp hb
    rw [e1, Option.bind_some, show (decide (((s, s1).1 : Str) ≠ [123]) || decide ((5 : Int) < a)) = true by rw [dT (show (5 : Int) < a by omega), Bool.or_true], cond_true]
    obtain ⟨M, rfl⟩ : ∃ M, N = M + 1 := ⟨N - 1, by omega⟩
    rw [blk_bad]
    exact ⟨_, _, rfl, .fail r1.par r1.bd rfl (fun _ => rfl)⟩
  | k + 1, a, N + 1, sx, hak, hk, hp, hb, hN, hw => by
    show ∃ l sx', words_reader_block_r N (words_reader_block N) sx a = some (l, sx') ∧ _
    unfold words_reader_block_r words_reader_block_j1
    obtain ⟨s, s1, e1, r1, hs, hl1⟩ := next_rel sx hp hb
    have r1 := r1.mono (m' := sx.w.length) (fun _ => Nat.sub_le _ _)
    obtain ⟨M, hM⟩ : ∃ M, N = M + 1 := ⟨N - 1, by omega⟩
    rw [e1, Option.bind_some]
    unfold blkP
    by_cases h : s = [123]
    · rw [show (decide (((s, s1).1 : Str) ≠ [123]) || decide ((5 : Int) < a)) = false by simp only [Bool.or_eq_false_iff, decide_eq_false_iff_not]; exact ⟨by simpa using h, by omega⟩, cond_false]
      have key : ∃ l sx', again (words_reader_block_b9 N (words_reader_block N) a) N ([], s1.w, s1.params, s1.bad) = some (l, sx') ∧ RelS ps s1.bad s1.w.length (loopP (stP ps (blkP ps n k)) n s1.w []) l sx' := by
        cases e : s1.bad with
        | true =>
          rw [hM, blk_bad]
          exact ⟨_, _, rfl, .fail r1.par r1.bd rfl (fun h => by cases h)⟩
        | false =>
          have hsb : sx.bad = false := by
            cases q : sx.bad with
            | false => rfl
            | true => rw [r1.keep q] at e; cases e
          have := hw hsb
          rw [r1.par]
          exact blk_loop hps N (words_reader_block N) a (by omega) (blkP ps n k) 60004 (fun sx' hp' hb' hl' => block_rel hps n hn k (a + 1) N sx' (by omega) (by omega) hp' hb' (by omega) (fun hq => by have := hl' hq; omega)) (by omega) N n [] s1.w (by omega) (by omega) (by omega) (by omega) r1.bd (by simp only [List.length_nil]; omega)
      obtain ⟨l, s2, e2, r2⟩ := key
      refine ⟨l, s2, e2, ?_⟩
      refine r1.bind (g := fun s w => if s = [123] then loopP (stP ps (blkP ps n k)) n w [] else none) ?_
      rw [if_pos h]
      exact r2
    · rw [show (decide (((s, s1).1 : Str) ≠ [123]) || decide ((5 : Int) < a)) = true by rw [dT (show ((s, s1).1 : Str) ≠ [123] from h), Bool.true_or], cond_true, hM, blk_bad]
      refine ⟨_, ⟨s1.w, s1.params, true⟩, rfl, ?_⟩
      refine r1.bind (g := fun s w => if s = [123] then loopP (stP ps (blkP ps n k)) n w [] else none) ?_
      rw [if_neg h]
      exact .fail r1.par r1.bd rfl (fun _ => rfl)
end Go.Proofs.YtckocfgmnlhcmaaGreatDoor

namespace Go.Proofs.YtckocfgmnlhcmaaGreatDoor
open Go Go.Proofs Go.LX
theorem heads_loop (a : List Str) (hb : Bd a) : ∀ (l pre : List Str) (acc : List Int), a = pre ++ l → acc.length + l.length ≤ 100000 → eachI (words_heads_b9 a) words_heads_k10 (pre.length : Int) l acc = some (acc ++ headsP l)
  | [], pre, acc, h, _ => by
    show some acc = _
    simp [headsP]
  | x :: l, pre, acc, h, hl => by
    have e : eachI (words_heads_b9 a) words_heads_k10 (pre.length : Int) (x :: l) acc = words_heads_b9 a (pre.length : Int) x acc (eachI (words_heads_b9 a) words_heads_k10 ((pre.length : Int) + 1) l) := rfl
    have ih : ∀ acc' : List Int, acc'.length + l.length ≤ 100000 → eachI (words_heads_b9 a) words_heads_k10 ((pre.length : Int) + 1) l acc' = some (acc' ++ headsP l) := fun acc' hq => by
      have := heads_loop a hb l (pre ++ [x]) acc' (by rw [h]; simp) hq
      rwa [show ((pre ++ [x]).length : Int) = (pre.length : Int) + 1 by simp] at this
    simp only [List.length_cons] at hl
    rw [e]
    generalize eachI (words_heads_b9 a) words_heads_k10 ((pre.length : Int) + 1) l = nx at ih ⊢
    unfold words_heads_b9 words_heads_j8
    by_cases hx : x = funS
    · cases l with
      | nil =>
        rw [show (decide ((x : Str) = [102, 117, 110]) && decide (((pre.length : Int) + 1 : Int) < (a.length : Int))) = false by rw [dF (show ¬ ((pre.length : Int) + 1 < (a.length : Int)) by rw [h]; simp), Bool.and_false], cond_false, ih acc (by omega)]
        rfl
      | cons y r =>
        rw [dT (show x = [102, 117, 110] from hx), dT (show (pre.length : Int) + 1 < (a.length : Int) by rw [h]; simp; omega), Bool.and_self, cond_true]
        have hy : idx a ((pre.length : Int) + 1) = some y := by
          rw [show ((pre.length : Int) + 1) = ((pre.length + 1 : Nat) : Int) by omega, idx_nat, h, List.getElem?_append_right (by omega)]
          simp
        have hyl : y.length ≤ 60000 := hb y (by rw [h]; simp)
        obtain ⟨v, hv1, hv2⟩ : ∃ v : Int × Bool, atoiS y = some v ∧ max 0 (min v.1 3) = headV y := ⟨_, atoiS_eq (by omega), by unfold headV; cases Lib.atoiAll y <;> rfl⟩
        rw [hy, Option.bind_some, hv1, Option.bind_some, hv2, grd_t ⟨by simp only [List.length_cons, List.length_nil] at hl ⊢; omega, by simp only [List.length_cons, List.length_nil] at hl ⊢; omega⟩, ih _ (by simp only [List.length_append, List.length_singleton]; simp only [List.length_cons] at hl ⊢; omega), headsP, if_pos hx]
        simp
    · rw [show (decide ((x : Str) = [102, 117, 110]) && decide (((pre.length : Int) + 1 : Int) < (a.length : Int))) = false by rw [dF (show ¬ x = [102, 117, 110] from hx), Bool.false_and], cond_false, ih acc (by omega), headsP_skip hx]
theorem heads_eq (a : List Str) (hb : Bd a) (hl : a.length ≤ 60001) : words_heads a = some (headsP a) := by
  unfold words_heads
  have := heads_loop a hb a [] [] rfl (by simp; omega)
  simpa using this
def chkS (N : Nat) (f : List Fun) : Int := (source_Check N f).getD 0
def outP (N : Nat) : Option (List Fun) → List Fun × Int
  | none => ([], 1)
  | some f => if chkS N f ≠ 0 then ([], 1) else (f, 0)
theorem prog_bad (N M : Nat) (acc : List Fun) (w : List Str) (ps : List Int) : again (words_Parse_b4 N) (M + 1) (acc, w, ps, true) = some ([], 1) := by
  show words_Parse_b4 N (acc, w, ps, true) _ = _
  unfold words_Parse_b4
  simp only [Bool.not_true, Bool.and_false, cond_false, cond_true]
  rfl
theorem prog_loop {ps : List Int} (hps : ∀ n ∈ ps, 0 ≤ n ∧ n ≤ 3) (N n : Nat) (hn : 60005 ≤ n) (hN : 60020 ≤ N) : ∀ (M m : Nat) (acc : List Fun) (w : List Str), w.length + 2 ≤ M → w.length < m → Bd w → w.length ≤ 60001 → acc.length + w.length ≤ 60005 → (∀ f, progP ps n m w acc = some f → ∃ r, source_Check N f = some r) →
    again (words_Parse_b4 N) M (acc, w, ps, false) = some (outP N (progP ps n m w acc))
  | 0, m, acc, w, h, _, _, _, _, _ => by omega
  | M + 1, 0, acc, w, _, h, _, _, _, _ => by omega
  | M + 1, m + 1, acc, w, hM, hm, hb, hw, hacc, hC => by
    show words_Parse_b4 N (acc, w, ps, false) (again (words_Parse_b4 N) M) = _
    generalize hg : again (words_Parse_b4 N) M = nx
    unfold words_Parse_b4
    simp only [Bool.not_false, Bool.and_true]
    unfold progP at hC ⊢
    by_cases hw0 : w = []
    · subst hw0
      rw [if_pos rfl] at hC ⊢
      rw [dF (by simp), cond_false, cond_false]
      obtain ⟨r, hr⟩ := hC acc rfl
      rw [hr, Option.bind_some]
      have hc : chkS N acc = r := by unfold chkS; rw [hr]; rfl
      show _ = some (if chkS N acc ≠ 0 then ([], 1) else (acc, 0))
      rw [hc]
      unfold words_Parse_j3
      by_cases h0 : r = 0
      · subst h0; rfl
      · rw [dT h0, cond_true, if_pos h0]
    · have hwl : 0 < w.length := List.length_pos_iff.2 hw0
      rw [if_neg hw0] at hC ⊢
      rw [dT (by omega), cond_true]
      obtain ⟨s, s1, e1, r1, hs, hl1⟩ := next_rel (ps := ps) ⟨w, ps, false⟩ rfl hb
      simp only at hl1 r1
      rw [e1, Option.bind_some]
      by_cases hf : s = [102, 117, 110]
      · rw [dF (by simpa using hf), cond_false]
        obtain ⟨u, s2, e2, r2, hu, hl2⟩ := next_rel s1 r1.par r1.bd
        obtain ⟨a, s3, e3, r3, hw3⟩ := number_rel s2 u [] hu r2.par r2.bd
        obtain ⟨v, s4, e4, r4, hv, hl4⟩ := next_rel s3 r3.par r3.bd
        obtain ⟨b, s5, e5, r5, hw5⟩ := number_rel s4 v [] hv r4.par r4.bd
        have hl5 : s5.w.length ≤ 60002 := by rw [hw5]; rw [hw3] at hl4; omega
        obtain ⟨l, s6, e6, r6⟩ := block_rel hps n hn 5 1 N s5 (by decide) (by decide) r5.par r5.bd (by omega) (fun _ => hl5)
        rw [e2, Option.bind_some]
        simp only
        rw [e3, Option.bind_some]
        simp only
        rw [e4, Option.bind_some]
        simp only
        rw [e5, Option.bind_some]
        simp only
        rw [e6, Option.bind_some]
        simp only
        rw [grd_t ⟨by simp only [List.length_singleton]; omega, by simp only [List.length_singleton]; omega⟩]
        have r2' := r2.mono (m' := s1.w.length) (fun _ => Nat.sub_le _ _)
        have r4' := r4.mono (m' := s3.w.length) (fun _ => Nat.sub_le _ _)
        have R : RelS ps false (w.length - 1) (funP ps n w) (⟨a, b, l⟩ : Fun) s6 := by
          refine r1.bind (g := fun s w => if s = [102, 117, 110] then (nextP w).bind fun u => (numR [] u.1 u.2).bind fun a => (nextP a.2).bind fun v => (numR [] v.1 v.2).bind fun b => (blkP ps n 5 b.2).bind fun l => some ((⟨a.1, b.1, l.1⟩ : Fun), l.2) else none) ?_
          rw [if_pos hf]
          exact r2'.bind (g := fun u w => (numR [] u w).bind fun a => (nextP a.2).bind fun v => (numR [] v.1 v.2).bind fun b => (blkP ps n 5 b.2).bind fun l => some ((⟨a.1, b.1, l.1⟩ : Fun), l.2)) (r3.bind (g := fun a w => (nextP w).bind fun v => (numR [] v.1 v.2).bind fun b => (blkP ps n 5 b.2).bind fun l => some ((⟨a, b.1, l.1⟩ : Fun), l.2)) (r4'.bind (g := fun v w => (numR [] v w).bind fun b => (blkP ps n 5 b.2).bind fun l => some ((⟨a, b.1, l.1⟩ : Fun), l.2)) (r5.bind (g := fun b w => (blkP ps n 5 w).bind fun l => some ((⟨a, b, l.1⟩ : Fun), l.2)) (r6.bind (g := fun l w => some ((⟨a, b, l⟩ : Fun), w)) (RelS.pure r6.par r6.bd _)))))
        obtain ⟨M', rfl⟩ : ∃ k, M = k + 1 := ⟨M - 1, by omega⟩
        cases e : funP ps n w with
        | none =>
          rw [R.no rfl e, ← hg, prog_bad]; rfl
        | some q =>
          obtain ⟨q1, q2⟩ := R.yes rfl q e
          have hl := R.len (by rw [q2])
          rw [e, Option.bind_some] at hC
          rw [q2] at hl ⊢
          simp only at hl ⊢
          rw [← q1, Option.bind_some]
          have hbq : Bd q.2 := by have := R.bd; rw [q2] at this; exact this
          rw [← hg]
          exact prog_loop hps N n hn hN (M' + 1) m (acc ++ [q.1]) q.2 (by omega) (by omega) hbq (by omega) (by simp only [List.length_append, List.length_singleton]; omega) hC
      · rw [dT hf, cond_true]
        have : funP ps n w = none := by
          unfold funP
          cases e : nextP w with
          | none => rfl
          | some q =>
            obtain ⟨q1, _⟩ := r1.yes rfl q e
            rw [Option.bind_some, if_neg (by rw [q1]; exact hf)]
        rw [this]; rfl
theorem parse_eq (N : Nat) (hN : 60100 ≤ N) (s : Str) (hC : ∀ f, wordsP s = some f → ∃ r, source_Check N f = some r) : words_Parse N s = some (if 60000 < s.length then ([], 2) else outP N (wordsP s)) := by
  unfold words_Parse
  by_cases h : 60000 < s.length
  · rw [dT (by omega), cond_true, if_pos h]
  · rw [dF (by omega), cond_false, if_neg h, splitS_eq 32 (by omega), Option.bind_some]
    have h1 := splitC_len 32 s
    have hb : Bd (splitC 32 s) := fun x hx => by have := (splitC_mem 32 s x hx).1; omega
    rw [heads_eq _ hb (by omega), Option.bind_some]
    exact prog_loop (headsP_bd _) N 60010 (by decide) (by omega) N 60010 [] _ (by omega) (by omega) hb (by omega) (by simp; omega) hC
/-! Printing. -/
theorem word_eq {ps : List Int} {c : Int} {t : Tok} (h : TokOk ps c t) (hc : c ≤ 6) (hp : ps.length ≤ 4) : words_word t = some (wordT t) := by
  have hn := h.n hc hp
  have hl := itoa_len hn
  obtain ⟨k, n⟩ := t
  unfold TokOk at h
  simp only at h hn hl
  unfold words_word wordT
  simp only
  rcases h with ⟨rfl, h⟩ | ⟨rfl, h⟩ | ⟨rfl, h⟩ | ⟨rfl, h⟩ | ⟨rfl, h⟩ | ⟨rfl, h⟩
  · rw [itoaS_eq hn]; rfl
  · rw [itoaS_eq hn, dT rfl, cond_true, bnd, grd_t (by simp; omega)]; rfl
  · have : n = 1 ∨ n = 2 ∨ n = 3 ∨ n = 4 ∨ n = 5 := by omega
    rcases this with rfl | rfl | rfl | rfl | rfl <;> rfl
  · rw [itoaS_eq hn, bnd, bnd, bnd, bnd, grd_t (by simp; omega), grd_t (by simp; omega), grd_t (by simp; omega), grd_t (by simp; omega)]; rfl
  · rw [itoaS_eq hn, bnd, bnd, bnd, bnd, grd_t (by simp; omega), grd_t (by simp; omega), grd_t (by simp; omega), grd_t (by simp; omega)]; rfl
  · rw [itoaS_eq hn, bnd, bnd, bnd, bnd, grd_t (by simp; omega), grd_t (by simp; omega), grd_t (by simp; omega), grd_t (by simp; omega)]; rfl
theorem expr_each {ps : List Int} {c : Int} (hc : c ≤ 6) (hp : ps.length ≤ 4) : ∀ (e : List Tok) (acc : List Str), (∀ t ∈ e, TokOk ps c t) → acc.length + e.length ≤ 100 → each words_expr_b3 words_expr_k4 e acc = some (acc ++ exprW e)
  | [], acc, _, _ => by show some acc = _; simp [exprW]
  | t :: e, acc, h, hl => by
    simp only [List.length_cons] at hl
    rw [each_cons', words_expr_b3, word_eq (h t (by simp)) hc hp, Option.bind_some, grd_t ⟨by simp only [List.length_singleton]; omega, by simp only [List.length_singleton]; omega⟩, expr_each hc hp e _ (fun x hx => h x (List.mem_cons_of_mem _ hx)) (by simp only [List.length_append, List.length_singleton]; omega)]
    simp [exprW]
theorem expr_eq {ps : List Int} {c : Int} (hc : c ≤ 6) (hp : ps.length ≤ 4) {e : List Tok} (h : ExprOk ps c e ∨ e = []) : words_expr e = some (exprW e) := by
  unfold words_expr
  rcases h with h | rfl
  · rw [expr_each hc hp e [] h.2.1 (by have := h.1; simp; omega)]; simp
  · rfl
theorem shape_exprs {ps : List Int} {c : Int} {s : GStmt} (hc : c ≤ 6) (h : Shape ps c s) : (ExprOk ps c s.e ∨ s.e = []) ∧ (ExprOk ps c s.f ∨ s.f = []) ∧ (1 ≤ s.kind ∧ s.kind ≤ 8) ∧ (s.kind = 1 ∨ s.kind = 2 → I64 s.n) := by
  unfold Shape at h
  refine ⟨?_, ?_, by omega, fun hq => small_I64 (by omega) (by omega)⟩
  · rcases h with ⟨_, _, h, h', _⟩ | ⟨_, _, h, h', _⟩ | ⟨_, _, h, h', _⟩ | ⟨_, _, h, h', _⟩ | ⟨_, _, h, h', _⟩ | ⟨_, _, h, h'⟩ | ⟨_, _, h, h', _⟩ | ⟨_, _, h, h', _⟩
    all_goals first | exact .inl h | exact .inr h
  · rcases h with ⟨_, _, h, h', _⟩ | ⟨_, _, h, h', _⟩ | ⟨_, _, h, h', _⟩ | ⟨_, _, h, h', _⟩ | ⟨_, _, h, h', _⟩ | ⟨_, _, h, h'⟩ | ⟨_, _, h, h', _⟩ | ⟨_, _, h, h', _⟩
    all_goals first | exact .inl h' | exact .inr h'
theorem kind_idx {k : Int} (h1 : 1 ≤ k) (h2 : k ≤ 8) : idx kindsL k = some (kindW k) := by
  have : k = 1 ∨ k = 2 ∨ k = 3 ∨ k = 4 ∨ k = 5 ∨ k = 6 ∨ k = 7 ∨ k = 8 := by omega
  rcases this with rfl | rfl | rfl | rfl | rfl | rfl | rfl | rfl <;> rfl
theorem b33_eq {ps : List Int} {c : Int} (hc : c ≤ 6) (hp : ps.length ≤ 4) (F0 : List GStmt → Option (List Str)) (a0 : List GStmt) (bw : List GStmt → List Str) (s : GStmt) (h : Shape ps c s) (ha : F0 s.a = some (bw s.a)) (hb : F0 s.b = some (bw s.b)) (hla : (bw s.a).length ≤ 500000000) (hlb : (bw s.b).length ≤ 500000000) (acc : List Str) (hacc : acc.length ≤ 2000000000) (nx : List Str → Option (List Str)) :
    words_block_b33 F0 a0 s acc nx = nx (acc ++ stW bw s) := by
  obtain ⟨he, hf, hk, hn⟩ := shape_exprs hc h
  have hle : (exprW s.e).length ≤ 24 := by have := (shape_len h).1; simpa [exprW] using this
  have hlf : (exprW s.f).length ≤ 24 := by have := (shape_len h).2; simpa [exprW] using this
  unfold words_block_b33
  rw [show idx ([[], [115, 101, 116], [112, 117, 116], [115, 97, 121], [112, 97, 117, 115, 101], [103, 111], [105, 102], [119, 104, 105, 108, 101], [114, 101, 116, 117, 114, 110]] : List Str) s.kind = some (kindW s.kind) from kind_idx hk.1 hk.2, Option.bind_some, grd_t ⟨by simp only [List.length_singleton]; omega, by simp only [List.length_singleton]; omega⟩]
  have j32 : ∀ x : List Str, x.length ≤ 3000000000 → words_block_j32 F0 s nx x = nx (x ++ (if s.kind = 6 then bw s.b else [])) := fun x hx => by
    unfold words_block_j32 words_block_j30
    by_cases h6 : s.kind = 6
    · rw [dT h6, cond_true, hb, Option.bind_some, grd_t ⟨by omega, by omega⟩, if_pos h6]
    · rw [dF h6, cond_false, if_neg h6, List.append_nil]
  have j31 : ∀ x : List Str, x.length ≤ 2000000010 → words_block_j31 F0 s a0 nx x = nx (x ++ exprW s.e ++ exprW s.f ++ (if s.kind = 6 ∨ s.kind = 7 then bw s.a else []) ++ (if s.kind = 6 then bw s.b else [])) := fun x hx => by
    unfold words_block_j31
    rw [expr_eq hc hp he, Option.bind_some, grd_t ⟨by omega, by omega⟩, expr_eq hc hp hf, Option.bind_some, grd_t ⟨by simp only [List.length_append]; omega, by simp only [List.length_append]; omega⟩]
    by_cases h67 : s.kind = 6 ∨ s.kind = 7
    · rw [show (decide ((s.kind : Int) = 6) || decide ((s.kind : Int) = 7)) = true by simpa using h67, cond_true, ha, Option.bind_some, grd_t ⟨by simp only [List.length_append]; omega, by simp only [List.length_append]; omega⟩, j32 _ (by simp only [List.length_append]; omega), if_pos h67]
    · rw [show (decide ((s.kind : Int) = 6) || decide ((s.kind : Int) = 7)) = false by simpa using h67, cond_false, j32 _ (by simp only [List.length_append]; omega), if_neg h67, List.append_nil]
  unfold stW
  by_cases h12 : s.kind = 1 ∨ s.kind = 2
  · rw [show (decide ((s.kind : Int) = 1) || decide ((s.kind : Int) = 2)) = true by simpa using h12, cond_true, itoaS_eq (hn h12), Option.bind_some, grd_t ⟨by simp only [List.length_append, List.length_singleton]; omega, by simp only [List.length_append, List.length_singleton]; omega⟩, j31 _ (by simp only [List.length_append, List.length_singleton]; omega), if_pos h12]
    simp only [List.append_assoc]
  · rw [show (decide ((s.kind : Int) = 1) || decide ((s.kind : Int) = 2)) = false by simpa using h12, cond_false, j31 _ (by simp only [List.length_append, List.length_singleton]; omega), if_neg h12]
    simp only [List.append_assoc, List.append_nil, List.nil_append]
theorem LW_le : ∀ k, k ≤ 4 → LW k ≤ 400000000 := by
  intro k hk
  have : k = 0 ∨ k = 1 ∨ k = 2 ∨ k = 3 ∨ k = 4 := by omega
  rcases this with rfl | rfl | rfl | rfl | rfl <;> decide
theorem block_loop {ps : List Int} {c : Int} (hc : c ≤ 6) (hp : ps.length ≤ 4) (F0 : List GStmt → Option (List Str)) (a0 : List GStmt) (k : Nat) (hk : k ≤ 3) (hF : ∀ l, BlkOk ps c k l → F0 l = some (blkW k l)) : ∀ (l : List GStmt) (acc : List Str), (∀ s ∈ l, Shape ps c s ∧ BlkOk ps c k s.a ∧ BlkOk ps c k s.b) → acc.length + l.length * (50 + 2 * LW k) ≤ 1000000000 →
    each (words_block_b33 F0 a0) words_block_k34 l acc = some (acc ++ l.flatMap (stW (blkW k)) ++ [[125]])
  | [], acc, _, hl => by
    show words_block_k34 acc = _
    unfold words_block_k34
    rw [grd_t ⟨by simp only [List.length_singleton]; omega, by simp only [List.length_singleton]; omega⟩]
    simp
  | s :: l, acc, h, hl => by
    obtain ⟨g1, g2, g3⟩ := h s (by simp)
    have la := blkW_len k s.a g2
    have lb := blkW_len k s.b g3
    have hk4 := LW_le k (by omega)
    have hst : (stW (blkW k) s).length ≤ 50 + 2 * LW k := by
      obtain ⟨he, hf⟩ := shape_len g1
      unfold stW
      simp only [List.length_append, List.length_singleton, exprW, List.length_map]
      split <;> split <;> split <;> simp only [List.length_singleton, List.length_nil] <;> omega
    rw [List.length_cons, Nat.succ_mul] at hl
    rw [each_cons', b33_eq hc hp F0 a0 (blkW k) s g1 (hF _ g2) (hF _ g3) (by omega) (by omega) acc (by omega), block_loop hc hp F0 a0 k hk hF l _ (fun x hx => h x (List.mem_cons_of_mem _ hx)) (by simp only [List.length_append]; omega)]
    simp
theorem block_eq {ps : List Int} {c : Int} (hc : c ≤ 6) (hp : ps.length ≤ 4) : ∀ (k : Nat) (l : List GStmt) (N : Nat), k < N → k ≤ 4 → BlkOk ps c k l → words_block N l = some (blkW k l)
  | k, l, 0, h, _, _ => by omega
  | 0, l, N + 1, _, _, hl => by
    have : l = [] := hl
    subst this; rfl
  | k + 1, l, N + 1, h, hk, hl => by
    show words_block_r (words_block N) l = _
    unfold words_block_r
    have h1 := LW_le (k + 1) hk
    have h2 := Nat.mul_le_mul_right (50 + 2 * LW k) hl.1
    simp only [LW] at h1
    rw [block_loop hc hp (words_block N) l k (by omega) (fun l' hl' => block_eq hc hp k l' N (by omega) (by omega) hl') l [[123]] hl.2 (by simp only [List.length_singleton]; omega), blkW]
    simp
theorem print_loop (N : Nat) (hN : 10 ≤ N) {ps : List Int} (hp : ps.length ≤ 4) : ∀ (f : List Fun) (acc : List Str), (∀ x ∈ f, FunOk ps x) → acc.length + f.length * (3 + LW 4) ≤ 2000000000 → each (words_Print_b3 N) words_Print_k4 f acc = words_Print_k4 (acc ++ progW 4 f)
  | [], acc, _, _ => by rw [show progW 4 [] = [] from rfl, List.append_nil]; rfl
  | x :: f, acc, h, hl => by
    have hx := h x (by simp)
    have h1 := hx.params; have h2 := hx.locals
    have h3 := blkW_len 4 _ hx.body
    have h4 := LW_le 4 (by decide)
    rw [List.length_cons, Nat.succ_mul] at hl
    rw [each_cons', words_Print_b3, itoaS_eq (small_I64 (by omega) (by omega)), Option.bind_some, itoaS_eq (small_I64 (by omega) (by omega)), Option.bind_some, grd_t ⟨by simp only [List.length_cons, List.length_nil]; omega, by simp only [List.length_cons, List.length_nil]; omega⟩, block_eq hx.locals.2 hp 4 _ N (by omega) (by decide) hx.body, Option.bind_some, grd_t ⟨by simp only [List.length_append, List.length_cons, List.length_nil]; omega, by simp only [List.length_append, List.length_cons, List.length_nil]; omega⟩,
      print_loop N hN hp f _ (fun y hy => h y (List.mem_cons_of_mem _ hy)) (by simp only [List.length_append, List.length_cons, List.length_nil]; omega)]
    congr 1
    simp [progW, funW]
theorem print_eq (N : Nat) (hN : 10 ≤ N) (f : List Fun) (hC : ∃ r, source_Check N f = some r ∧ (r = 0 → ProgOk f)) : words_Print N f = some (if chkS N f = 0 then (textP f, 0) else ([], chkS N f)) := by
  obtain ⟨r, h1, h2⟩ := hC
  unfold words_Print chkS
  rw [h1, Option.bind_some]
  simp only [Option.getD_some]
  by_cases h : r = 0
  · have g := h2 h
    have hp : (f.map (·.params)).length ≤ 4 := by simpa using g.many.2
    have hL := LW_le 4 (by decide)
    have hm := Nat.mul_le_mul_right (3 + LW 4) g.many.2
    obtain ⟨q1, q2, q3⟩ := prog_all g
    rw [dF (by omega), cond_false, if_pos h, print_loop N hN hp f [] g.fn (by simp only [List.length_nil]; omega)]
    unfold words_Print_k4
    rw [List.nil_append]
    have hj := joinC_len 32 24 (progW 4 f) (fun w hw => (q1 w hw).2)
    have : joinS (progW 4 f) [32] = some (textP f) := joinS_eq 32 (by omega) (by omega)
    rw [this]; rfl
  · rw [dT h, cond_true, if_neg h]
/-! Sameness. -/
end Go.Proofs.YtckocfgmnlhcmaaGreatDoor

namespace Go.Proofs.YtckocfgmnlhcmaaGreatDoor
open Go Go.Proofs Go.LX
theorem szB (a : List Fun) : ∃ B : Nat, ∀ x ∈ a, SizeOf.sizeOf x.body ≤ B := by
  induction a with
  | nil => exact ⟨0, fun x h => by cases h⟩
  | cons y r ih =>
    obtain ⟨B, hB⟩ := ih
    refine ⟨B + SizeOf.sizeOf y.body, fun x hx => ?_⟩
    rcases List.mem_cons.1 hx with rfl | h
    · omega
    · have := hB x h; omega
/-- The program of the law's closed fact. -/
def f0 : List Fun := [⟨0, 1, [⟨1, 0, [⟨1, 3⟩], [], [], []⟩, ⟨7, 0, [⟨2, 0⟩], [], [⟨3, 0, [⟨6, 1⟩, ⟨2, 0⟩, ⟨2, 0⟩], [], [], []⟩, ⟨5, 0, [⟨2, 0⟩], [], [], []⟩, ⟨4, 0, [], [], [], []⟩, ⟨1, 0, [⟨3, 2⟩, ⟨2, 0⟩, ⟨1, 1⟩], [], [], []⟩], []⟩]⟩,
  ⟨2, 2, [⟨8, 0, [⟨3, 3⟩, ⟨2, 0⟩, ⟨2, 1⟩], [], [], []⟩]⟩]
theorem f0_check (N : Nat) : source_Check (N + 20) f0 = some 0 := by rfl
theorem f0_ok : ProgOk f0 := by
  obtain ⟨B, hB⟩ := szB f0
  obtain ⟨r, h1, h2⟩ := check_tot (B + 1 + 20) (by omega) f0 (fun x hx => by have := hB x hx; omega)
  rw [f0_check] at h1
  cases h1
  exact h2 rfl
theorem itoa_small {k : Nat} (h : k < 10) : Lib.itoa (k : Int) = [UInt8.ofNat (48 + k)] := by
  unfold Lib.itoa
  rw [if_neg (by omega), Int.toNat_natCast, Lib.decDigits_one h]
abbrev t0 : Str := [102, 117, 110, 32, 48, 32, 49, 32, 123, 32, 115, 101, 116, 32, 48, 32, 51, 32, 119, 104, 105, 108, 101, 32, 118, 48, 32, 123, 32, 115, 97, 121, 32, 102, 49, 32, 118, 48, 32, 118, 48, 32, 103, 111, 32, 118, 48, 32, 112, 97, 117, 115, 101, 32, 115, 101, 116, 32, 48, 32, 45, 32, 118, 48, 32, 49, 32, 125, 32, 125, 32, 102, 117, 110, 32, 50, 32, 50, 32, 123, 32, 114, 101, 116, 117, 114, 110, 32, 42, 32, 118, 48, 32, 118, 49, 32, 125]
theorem f0_text : textP f0 = t0 := by
  have h0 : Lib.itoa 0 = [48] := itoa_small (k := 0) (by decide)
  have h1 : Lib.itoa 1 = [49] := itoa_small (k := 1) (by decide)
  have h2 : Lib.itoa 2 = [50] := itoa_small (k := 2) (by decide)
  have h3 : Lib.itoa 3 = [51] := itoa_small (k := 3) (by decide)
  have e : progW 4 f0 = [[102, 117, 110], [48], [49], [123], [115, 101, 116], [48], [51], [119, 104, 105, 108, 101], [118, 48], [123], [115, 97, 121], [102, 49], [118, 48], [118, 48], [103, 111], [118, 48], [112, 97, 117, 115, 101], [115, 101, 116], [48], [45], [118, 48], [49], [125], [125], [102, 117, 110], [50], [50], [123], [114, 101, 116, 117, 114, 110], [42], [118, 48], [118, 49], [125]] := by
    simp [progW, f0, funW, blkW, stW, kindW, exprW, wordT, h0, h1, h2, h3]
  unfold textP
  rw [e]
  simp only [joinC_cons, joinC_one, List.cons_append, List.nil_append]
theorem parse_text {N : Nat} (hN : 60100 ≤ N) {f : List Fun} (hf : ProgOk f) (hC : source_Check N f = some 0) (hl : (textP f).length ≤ 60000) : words_Parse N (textP f) = some (f, 0) := by
  rw [parse_eq N hN (textP f) (fun g hg => by rw [wordsP_text hf] at hg; cases hg; exact ⟨0, hC⟩), if_neg (by omega), wordsP_text hf]
  show some (if chkS N f ≠ 0 then ([], 1) else (f, 0)) = _
  have : chkS N f = 0 := by unfold chkS; rw [hC]; rfl
  rw [if_neg (by omega)]
theorem written_ok (M : Nat) : wandererlaw_written (M + 60100) = some true := by
  have hC : source_Check (M + 60100) f0 = some 0 := f0_check (M + 60080)
  have hp := parse_text (N := M + 60100) (by omega) f0_ok hC (by rw [f0_text]; decide)
  rw [f0_text] at hp
  have hpr := print_eq (M + 60100) (by omega) f0 ⟨0, hC, fun _ => f0_ok⟩
  have hch : chkS (M + 60100) f0 = 0 := by unfold chkS; rw [hC]; rfl
  rw [if_pos hch, f0_text] at hpr
  unfold wandererlaw_written
  rw [hp, Option.bind_some]
  simp only
  rw [hpr, Option.bind_some]
  rfl
end Go.Proofs.YtckocfgmnlhcmaaGreatDoor

namespace Go.Proofs.YtckocfgmnlhcmaaGreatDoor
namespace Src
open Go Go.Proofs Go.LX
theorem tok_eq (a : Tok) (b : List Fun) (c : Int) : ∃ n e, source_tok a b c = some (n, e) ∧ wandererref_CheckTok a b c = e ∧ (e = 0 → wandererref_asks a b = some n ∧ (n = 0 ∨ n = 1 ∨ n = 2 ∨ ∃ x ∈ b, n = x.params)) := by
  unfold source_tok wandererref_CheckTok wandererref_asks source_tok_j1 wandererref_CheckTok_j1 wandererref_fits wandererref_in wandererref_below
  by_cases h1 : a.kind = 1
  · simp only [h1]
    cases h : (decide ((-1000000000 : Int) ≤ a.n) && decide ((a.n : Int) ≤ 1000000000)) with
    | true => exact ⟨0, 0, rfl, rfl, fun _ => ⟨rfl, by simp⟩⟩
    | false => exact ⟨0, 3, rfl, rfl, fun h => absurd h (by decide)⟩
  by_cases h2 : a.kind = 2
  · simp only [h2]
    cases h : (decide ((0 : Int) ≤ a.n) && decide ((a.n : Int) < c)) with
    | true => exact ⟨0, 0, rfl, rfl, fun _ => ⟨rfl, by simp⟩⟩
    | false => exact ⟨0, 3, rfl, rfl, fun h => absurd h (by decide)⟩
  by_cases h3 : a.kind = 3
  · simp only [h3]
    cases h : (decide ((1 : Int) ≤ a.n) && decide ((a.n : Int) ≤ 5)) with
    | true => exact ⟨2, 0, rfl, rfl, fun _ => ⟨rfl, by simp⟩⟩
    | false => exact ⟨0, 3, rfl, rfl, fun h => absurd h (by decide)⟩
  by_cases h4 : a.kind = 4
  · simp only [h4]
    rw [show decide ((a.n : Int) ≤ 3) = decide (a.n < 4) by rw [decide_eq_decide]; omega]
    cases h : (decide ((0 : Int) ≤ a.n) && decide ((a.n : Int) < 4)) with
    | true => exact ⟨1, 0, rfl, rfl, fun _ => ⟨rfl, by simp⟩⟩
    | false => exact ⟨0, 3, rfl, rfl, fun h => absurd h (by decide)⟩
  by_cases h5 : a.kind = 5
  · simp only [h5]
    cases h : (decide ((1 : Int) ≤ a.n) && decide ((a.n : Int) ≤ 4)) with
    | true => exact ⟨0, 0, rfl, rfl, fun _ => ⟨rfl, by simp⟩⟩
    | false => exact ⟨0, 3, rfl, rfl, fun h => absurd h (by decide)⟩
  by_cases h6 : a.kind = 6
  · simp only [h6]
    by_cases h : (0 : Int) ≤ a.n ∧ a.n < b.length
    · obtain ⟨n, hn⟩ := Int.eq_ofNat_of_zero_le h.1
      have hl : n < b.length := by omega
      have hx : idx b a.n = some b[n] := by rw [hn]; exact idx_lt hl
      refine ⟨b[n].params, 0, ?_, by simp [h], fun _ => ⟨by simp [hx], .inr (.inr (.inr ⟨_, List.getElem_mem hl, rfl⟩))⟩⟩
      have e1 : ¬ a.n < 0 := by omega
      have e2 : ¬ (b.length : Int) ≤ a.n := by omega
      simp [e1, e2, hx]
    · refine ⟨0, 5, ?_, ?_, by simp⟩
      · have : a.n < 0 ∨ (b.length : Int) ≤ a.n := by omega
        rcases this with h | h <;> simp [h]
      · have : a.n < 0 ∨ (b.length : Int) ≤ a.n := by omega
        rcases this with h | h
        · have : ¬ (0 : Int) ≤ a.n := by omega
          simp [this]
        · have : ¬ a.n < (b.length : Int) := by omega
          simp [this]
  exact ⟨0, 4, by simp [h1, h2, h3, h4, h5, h6], by simp [h1, h2, h3, h4, h5, h6], by simp⟩

theorem maxL (l : List Int) (hl : l.length ≤ 1000) : ∀ (k i N : Nat) (m : Int), i + k = l.length → k < N → again (slices_Max_int_b2 l) N (m, (i : Int)) = some ((l.drop i).foldl max m)
  | 0, i, N + 1, m, h, _ => by
    rw [List.drop_eq_nil_of_le (by omega)]
    show slices_Max_int_b2 l (m, (i : Int)) _ = _
    unfold slices_Max_int_b2
    simp only
    rw [decide_eq_false (by omega)]
    rfl
  | k + 1, i, N + 1, m, h, hN => by
    have hi : i < l.length := by omega
    have key := fun m' => maxL l hl k (i + 1) N m' (by omega) (by omega)
    show slices_Max_int_b2 l (m, (i : Int)) (again (slices_Max_int_b2 l) N) = _
    generalize again (slices_Max_int_b2 l) N = nx at key ⊢
    unfold slices_Max_int_b2
    simp only
    rw [decide_eq_true (by omega), idx_lt hi]
    simp only [cond_true, bnd]
    rw [gI, show ((i : Int) + 1) = ((i + 1 : Nat) : Int) from rfl, key, List.drop_eq_getElem_cons hi]
    rfl
theorem foldl_max_pos : ∀ (l : List Int) (m : Int), 0 < l.foldl max m ↔ 0 < m ∨ ∃ x ∈ l, 0 < x
  | [], m => by simp
  | x :: r, m => by
    rw [List.foldl_cons, foldl_max_pos r]
    simp only [List.mem_cons, exists_eq_or_imp]
    have : 0 < max m x ↔ 0 < m ∨ 0 < x := by omega
    rw [this, or_assoc]
theorem sum_zero : ∀ (l : List Int), (∀ x ∈ l, 0 ≤ x) → 0 ≤ l.sum ∧ (0 < l.sum ↔ ∃ x ∈ l, 0 < x)
  | [], _ => by simp
  | x :: r, h => by
    have h1 := sum_zero r (fun y hy => h y (List.mem_cons_of_mem _ hy))
    have h2 := h x (List.mem_cons_self)
    simp only [List.sum_cons, List.mem_cons, exists_eq_or_imp, ← h1.2]
    omega
/-- What is open still, once what wants nothing more is struck. -/
theorem pop (x : Tok) (b : List Fun) (nx : List Int → Option Int) (i : Int) (hi : 0 < i) : ∀ (k : Nat) (o : List Int) (N : Nat), o.length = k → k < N → k ≤ 1000 → (∀ y ∈ o, 0 ≤ y ∧ y ≤ 3) →
    (o.sum = 0 ∧ again (wandererref_CheckExpr_b132 i x b nx) N o = some 4) ∨ (∃ p q, (∀ y ∈ p, 0 ≤ y ∧ y ≤ 3) ∧ 0 < q ∧ q ≤ 3 ∧ p.sum + q = o.sum ∧ p.length + 1 ≤ o.length ∧ again (wandererref_CheckExpr_b132 i x b nx) N o = wandererref_CheckExpr_j131 x b nx (p ++ [q - 1]))
  | 0, o, N + 1, h, hN, hk, ho => by
    obtain rfl := List.eq_nil_of_length_eq_zero h
    refine .inl ⟨rfl, ?_⟩
    show wandererref_CheckExpr_b132 i x b nx [] _ = _
    unfold wandererref_CheckExpr_b132 wandererref_CheckExpr_j130
    simp [hi]
  | k + 1, o, N + 1, h, hN, hk, ho => by
    obtain ⟨p, q, rfl⟩ : ∃ p q, o = p ++ [q] := ⟨o.dropLast, o.getLast (by intro e; simp [e] at h), (List.dropLast_concat_getLast _).symm⟩
    have hl : p.length = k := by simpa using h
    have hp : ∀ y ∈ p, 0 ≤ y ∧ y ≤ 3 := fun y hy => ho y (by simp [hy])
    have hq := ho q (by simp)
    have e1 : (((p ++ [q]).length : Int)) - 1 = (p.length : Int) := by simp
    have e2 : idx (p ++ [q]) (p.length : Int) = some q := by rw [idx_lt (by simp)]; simp
    show (_ ∧ wandererref_CheckExpr_b132 i x b nx (p ++ [q]) _ = _) ∨ (∃ p' q', _ ∧ _ ∧ _ ∧ _ ∧ _ ∧ wandererref_CheckExpr_b132 i x b nx (p ++ [q]) _ = _)
    unfold wandererref_CheckExpr_b132 wandererref_CheckExpr_j130
    rw [decide_eq_true (show (0 : Int) < ((p ++ [q]).length : Int) by simp), e1, e2, gI]
    simp only [cond_true, bnd]
    by_cases hz : q = 0
    · subst hz
      rw [decide_eq_true rfl]
      simp only [cond_true]
      rw [gI, show sub? (p ++ [0]) 0 (p.length : Int) = some (((p ++ [0]).take p.length).drop 0) from sub_s (Nat.zero_le _) (by simp)]
      simp only [bnd, Int.toNat_natCast, List.take_left]
      rcases pop x b nx i hi k p N hl (by omega) (by omega) hp with ⟨h1, h2⟩ | ⟨p', q', h1, h2, h3, h4, h5, h6⟩
      · exact .inl ⟨by simp [h1], h2⟩
      · exact .inr ⟨p', q', h1, h2, h3, by simp [h4], by simp; omega, h6⟩
    · refine .inr ⟨p, q, hp, by omega, by omega, by simp, by simp, ?_⟩
      rw [decide_eq_false hz]
      simp only [cond_false]
      rw [decide_eq_true hi, decide_eq_false (show ¬ (((p ++ [q]).length : Int) = 0) by simp; omega)]
      simp only [Bool.and_false, cond_false, cond_true]
      rw [gI, gI]
      simp only [Int.toNat_natCast]
      congr 1
      simp

def okP (b : List Fun) : Bool := b.all fun x => decide (0 ≤ x.params) && decide (x.params ≤ 3)
theorem expr1 (a : List Tok) (b : List Fun) (c : Int) : source_Expr a b c = if 24 < a.length then some 2 else if okP b then each (source_Expr_b29 b c) source_Expr_k30 a 1 else some 3 := by
  unfold source_Expr
  by_cases h : 24 < a.length
  · rw [dT (by omega), if_pos h]; rfl
  · rw [dF (by omega), if_neg h]
    simp only [cond_false, Int.toNat_natCast]
    rw [upto_eachI (g := fun i x s nx => bif (decide ((x.params : Int) < 0) || decide ((3 : Int) < x.params)) then source_Expr_j26 b c a (decide ((0 : Int) ≤ i)) else nx ()) b (fun i x s nx hx => by unfold source_Expr_b37; rw [idx_nat, hx]; rfl)]
    rw [eachI_each0 (g := fun x s nx => bif (decide ((x.params : Int) < 0) || decide ((3 : Int) < x.params)) then some 3 else nx ()) (fun i x s nx => by rw [show decide ((0 : Int) ≤ (i : Int)) = true from dT (by omega)]; rfl)]
    have key : ∀ l : List Fun, each (fun x s nx => bif (decide ((x.params : Int) < 0) || decide ((3 : Int) < x.params)) then some 3 else nx ()) (source_Expr_k38 b c a) l () = if okP l then each (source_Expr_b29 b c) source_Expr_k30 a 1 else some 3 := by
      intro l
      induction l with
      | nil => rfl
      | cons x r ih =>
        rw [each_cons, ih]
        by_cases hx : 0 ≤ x.params ∧ x.params ≤ 3
        · rw [dF (show ¬ x.params < 0 by omega), dF (show ¬ 3 < x.params by omega)]
          simp [okP, hx.1, hx.2]
        · have : (decide (x.params < 0) || decide (3 < x.params)) = true := by simp; omega
          rw [this]
          have h2 : okP (x :: r) = false := by simp [okP]; intro h3 h4; omega
          rw [h2]; rfl
    exact key b
theorem expr2 (N : Nat) (a : List Tok) (b : List Fun) (c : Int) : wandererref_CheckExpr N a b c = if 24 < a.length then some 2 else if okP b then eachI (wandererref_CheckExpr_b135 N b c) (wandererref_CheckExpr_k136 N a) 0 a [] else some 3 := by
  unfold wandererref_CheckExpr
  by_cases h : 24 < a.length
  · rw [dT (by omega), if_pos h]; rfl
  · rw [dF (by omega), if_neg h]
    simp only [cond_false]
    have key : ∀ l : List Fun, each wandererref_CheckExpr_b137 (wandererref_CheckExpr_k138 N b c a) l () = if okP l then eachI (wandererref_CheckExpr_b135 N b c) (wandererref_CheckExpr_k136 N a) 0 a [] else some 3 := by
      intro l
      induction l with
      | nil => rfl
      | cons x r ih =>
        rw [each_cons]
        generalize each wandererref_CheckExpr_b137 (wandererref_CheckExpr_k138 N b c a) r = nx at ih ⊢
        unfold wandererref_CheckExpr_b137 wandererref_in
        rw [ih]
        by_cases hx : 0 ≤ x.params ∧ x.params ≤ 3
        · simp [okP, hx.1, hx.2]
        · have : (!(decide (0 ≤ x.params) && decide (x.params ≤ 3))) = true := by simp; omega
          rw [this]
          have h2 : okP (x :: r) = false := by simp [okP]; intro h3 h4; omega
          rw [h2]; rfl
    exact key b
theorem exprLoop (b : List Fun) (c : Int) (hb : okP b = true) (N : Nat) (hN : 100 ≤ N) (a : List Tok) (ha : a.length ≤ 24) : ∀ (l : List Tok) (i : Nat) (w : Int) (o : List Int), i + l.length = a.length → (∀ y ∈ o, 0 ≤ y ∧ y ≤ 3) → o.length ≤ i → w ≤ 1 + 3 * i → ((i = 0 ∧ w = 1 ∧ o = []) ∨ (0 < i ∧ o.sum = w)) →
    ∃ r, each (source_Expr_b29 b c) source_Expr_k30 l w = some r ∧ eachI (wandererref_CheckExpr_b135 N b c) (wandererref_CheckExpr_k136 N a) (i : Int) l o = some r
  | [], i, w, o, h, ho, hoi, hw, hr => by
    show ∃ r, source_Expr_k30 w = some r ∧ wandererref_CheckExpr_k136 N a o = some r
    unfold source_Expr_k30 wandererref_CheckExpr_k136
    simp only [List.length_nil] at h
    rcases hr with ⟨h1, rfl, rfl⟩ | ⟨h1, h2⟩
    · rw [dT (show (a.length : Int) = 0 by omega)]; exact ⟨4, rfl, rfl⟩
    · rw [dF (show ¬ (a.length : Int) = 0 by omega)]
      simp only [cond_false]
      rw [grd_t (Room.mk (by simp; omega) (by simp; omega))]
      unfold slices_Max_int
      rw [dF (show ¬ ((([0] ++ o : List Int).length : Int) < 1) by simp; omega), show idx ([0] ++ o) 0 = some 0 from rfl]
      simp only [cond_false, bnd]
      have := maxL ([0] ++ o) (by simp; omega) ([0] ++ o).length.pred 1 N 0 (by simp; omega) (by simp; omega)
      rw [show ((1 : Nat) : Int) = 1 from rfl] at this
      rw [this]
      show ∃ r, _ ∧ wandererref_CheckExpr_j134 _ = _
      unfold wandererref_CheckExpr_j134
      have e : decide ((0 : Int) < w) = decide (0 < (([0] ++ o).drop 1).foldl max 0) := by
        rw [decide_eq_decide, foldl_max_pos, ← h2, (sum_zero o (fun y hy => (ho y hy).1)).2]
        simp
      rw [e]
      cases decide (0 < (([0] ++ o).drop 1).foldl max 0)
      · exact ⟨0, rfl, rfl⟩
      · exact ⟨4, rfl, rfl⟩
  | x :: r, i, w, o, h, ho, hoi, hw, hr => by
    simp only [List.length_cons] at h
    rw [each_cons, eachI_cons]
    have ih := exprLoop b c hb N hN a ha r (i + 1)
    rw [show (((i + 1 : Nat)) : Int) = (i : Int) + 1 from rfl] at ih
    generalize each (source_Expr_b29 b c) source_Expr_k30 r = nx1 at ih ⊢
    generalize eachI (wandererref_CheckExpr_b135 N b c) (wandererref_CheckExpr_k136 N a) ((i : Int) + 1) r = nx2 at ih ⊢
    unfold source_Expr_b29 wandererref_CheckExpr_b135
    obtain ⟨n, e, h1, h2, h3⟩ := tok_eq x b c
    rw [h1, h2]
    simp only [bnd]
    by_cases he : e = 0
    · subst he
      obtain ⟨h4, h5⟩ := h3 rfl
      have hn : 0 ≤ n ∧ n ≤ 3 := by
        rcases h5 with rfl | rfl | rfl | ⟨y, hy, rfl⟩
        · omega
        · omega
        · omega
        · have := List.all_eq_true.1 hb y hy
          simpa using this
      rw [show decide ((0 : Int) ≠ 0) = false from rfl]
      simp only [cond_false]
      rcases hr with ⟨hi, rfl, rfl⟩ | ⟨hi, hs⟩
      · rw [show decide ((1 : Int) = 0) = false from rfl]
        simp only [cond_false]
        rw [gI, gI]
        obtain ⟨M, rfl⟩ : ∃ M, N = M + 1 := ⟨N - 1, by omega⟩
        show ∃ r, _ ∧ wandererref_CheckExpr_b132 (i : Int) x b nx2 [] (again (wandererref_CheckExpr_b132 (i : Int) x b nx2) M) = _
        generalize again (wandererref_CheckExpr_b132 (i : Int) x b nx2) M = nx3
        unfold wandererref_CheckExpr_b132 wandererref_CheckExpr_j130 wandererref_CheckExpr_j131
        subst hi
        rw [h4]
        simp only [List.length_nil, Int.natCast_zero, show decide ((0 : Int) < 0) = false from rfl, cond_false, bnd, Bool.false_and]
        rw [grd_t (Room.mk (by simp) (by simp))]
        exact ih _ _ (by omega) (by simp; omega) (by simp) (by omega) (.inr ⟨by omega, by simp; omega⟩)
      · rcases pop x b nx2 (i : Int) (by omega) o.length o N rfl (by omega) (by omega) ho with ⟨g1, g2⟩ | ⟨p, q, g1, g2, g3, g4, g5, g6⟩
        · rw [g2, dT (show w = 0 by omega)]; exact ⟨4, rfl, rfl⟩
        · have hp := (sum_zero p (fun y hy => (g1 y hy).1)).1
          rw [g6, dF (show ¬ w = 0 by omega)]
          simp only [cond_false]
          rw [gI, gI]
          unfold wandererref_CheckExpr_j131
          rw [h4]
          simp only [bnd]
          rw [grd_t (Room.mk (by simp; omega) (by simp; omega))]
          refine ih _ _ (by omega) ?_ (by simp; omega) (by omega) (.inr ⟨by omega, by simp; omega⟩)
          intro y hy
          simp only [List.mem_append, List.mem_singleton] at hy
          rcases hy with (hy | rfl) | rfl
          · exact g1 y hy
          · omega
          · exact hn
    · rw [show decide (e ≠ 0) = true from dT he]
      exact ⟨e, rfl, rfl⟩
theorem exprEq (a : List Tok) (b : List Fun) (c : Int) (N : Nat) (hN : 100 ≤ N) : ∃ r, source_Expr a b c = some r ∧ wandererref_CheckExpr N a b c = some r := by
  rw [expr1, expr2]
  by_cases h : 24 < a.length
  · rw [if_pos h, if_pos h]; exact ⟨_, rfl, rfl⟩
  · rw [if_neg h, if_neg h]
    cases hb : okP b with
    | false => exact ⟨3, rfl, rfl⟩
    | true => exact exprLoop b c hb N hN a (by omega) a 0 1 [] (by omega) (by simp) (by simp) (by omega) (.inl ⟨rfl, rfl, rfl⟩)
end Src
end Go.Proofs.YtckocfgmnlhcmaaGreatDoor

namespace Go.Proofs.YtckocfgmnlhcmaaGreatDoor
namespace Src
open Go Go.Proofs Go.LX
theorem neB (x : Bool) : (decide ((if x = true then (1 : Int) else 0) ≠ 0)) = x := by cases x <;> rfl
abbrev tabS : List (Int × Str) := [(1, [78, 69]), (2, [78, 69, 70]), (3, [69]), (4, []), (5, [69]), (6, [69, 65, 66]), (7, [69, 65]), (8, [69])]
def stR (x : GStmt) (c e1 f1 : Int) (n e f a b : Bool) : Int :=
  bif ((((((!n) && decide ((x.n : Int) ≠ 0)) || ((!e) && decide ((0 : Int) < (x.e.length : Int)))) || ((!f) && decide ((0 : Int) < (x.f.length : Int)))) || ((!a) && decide ((0 : Int) < (x.a.length : Int)))) || ((!b) && decide ((0 : Int) < (x.b.length : Int)))) then 4 else
  bif ((decide ((x.kind : Int) = 1) && (decide ((x.n : Int) < 0) || decide ((c : Int) ≤ x.n))) || (decide ((x.kind : Int) = 2) && (decide ((x.n : Int) < 0) || decide ((4 : Int) ≤ x.n)))) then 3 else
  bif e then (bif decide (e1 ≠ 0) then e1 else bif f then f1 else 0) else bif f then f1 else 0
theorem comb : ∀ (n e f a b n0 n1 n2 n3 n4 : Bool), ((((((!true) || (n0 && (!n))) || (n1 && (!e))) || (n2 && (!f))) || (n3 && (!a))) || (n4 && (!b))) = ((((((!n) && n0) || ((!e) && n1)) || ((!f) && n2)) || ((!a) && n3)) || ((!b) && n4)) := by
  intro n e f a b n0 n1 n2 n3 n4
  simp [Bool.and_comm]
theorem docStmt (x : GStmt) (b : List Fun) (c e1 f1 : Int) (N : Nat) (he : wandererref_CheckExpr N x.e b c = some e1) (hf : wandererref_CheckExpr N x.f b c = some f1) {L : Str} (hL : lk x.kind tabS = some L) {n e f a' b' : Bool}
    (h1 : hasB L 78 = n) (h2 : hasB L 69 = e) (h3 : hasB L 70 = f) (h4 : hasB L 65 = a') (h5 : hasB L 66 = b') (F0 : List GStmt → List Fun → Int → Option Int) (a : List GStmt) (nx : Unit → Option Int) :
    wandererref_checkStmts_b35 N F0 a b c x () nx = bif decide (stR x c e1 f1 n e f a' b' ≠ 0) then some (stR x c e1 f1 n e f a' b') else (F0 x.a b c).bind fun y => bif decide (y ≠ 0) then some y else (F0 x.b b c).bind fun z => bif decide (z ≠ 0) then some z else nx () := by
  have t2 : ∀ (y : Int), wandererref_checkStmts_j33 F0 x b c nx y = bif decide (y ≠ 0) then some y else (F0 x.b b c).bind fun z => bif decide (z ≠ 0) then some z else nx () := by
    intro y
    unfold wandererref_checkStmts_j33 wandererref_checkStmts_j34
    by_cases hy : y = 0
    · subst hy; rfl
    · rw [dF hy, dT hy]; rfl
  have t1 : ∀ (y : Int), wandererref_checkStmts_j32 F0 x a b c nx y = bif decide (y ≠ 0) then some y else (F0 x.a b c).bind fun y => bif decide (y ≠ 0) then some y else (F0 x.b b c).bind fun z => bif decide (z ≠ 0) then some z else nx () := by
    intro y
    unfold wandererref_checkStmts_j32
    simp only [t2]
    by_cases hy : y = 0
    · subst hy; rfl
    · rw [dF hy, dT hy]; rfl
  have t0 : ∀ (y : Int), wandererref_checkStmts_j31 N F0 x b c a nx y = wandererref_checkStmts_j32 F0 x a b c nx (bif (decide (y = 0) && f) then f1 else y) := by
    intro y
    unfold wandererref_checkStmts_j31 wandererref_checkStmts_1_70
    rw [show (lk x.kind [(1, [78, 69]), (2, [78, 69, 70]), (3, [69]), (4, []), (5, [69]), (6, [69, 65, 66]), (7, [69, 65]), (8, [69])]) = some L from hL, Option.getD_some, h3, hf]
    cases (decide (y = 0) && f) <;> rfl
  have inEq : wandererref_below x.n c = (!(decide (x.n < 0) || decide (c ≤ x.n))) := by
    unfold wandererref_below; rw [Bool.eq_iff_iff]; simp
  have inEq2 : wandererref_in x.n 0 3 = (!(decide (x.n < 0) || decide (4 ≤ x.n))) := by
    unfold wandererref_in; rw [Bool.eq_iff_iff]; simp; omega
  unfold wandererref_checkStmts_b35 wandererref_checkStmts_1_78 wandererref_checkStmts_1_69 wandererref_checkStmts_1_70 wandererref_checkStmts_1_65 wandererref_checkStmts_1_66
  rw [show (lk x.kind [(1, [78, 69]), (2, [78, 69, 70]), (3, [69]), (4, []), (5, [69]), (6, [69, 65, 66]), (7, [69, 65]), (8, [69])]) = some L from hL]
  simp only [Option.getD_some, Option.isSome_some, h1, h2, h3, h4, h5, comb, inEq, inEq2, Bool.not_not]
  unfold stR
  generalize ((((((!n) && decide ((x.n : Int) ≠ 0)) || ((!e) && decide ((0 : Int) < (x.e.length : Int)))) || ((!f) && decide ((0 : Int) < (x.f.length : Int)))) || ((!a') && decide ((0 : Int) < (x.a.length : Int)))) || ((!b') && decide ((0 : Int) < (x.b.length : Int)))) = C1
  generalize ((decide ((x.kind : Int) = 1) && (decide ((x.n : Int) < 0) || decide ((c : Int) ≤ x.n))) || (decide ((x.kind : Int) = 2) && (decide ((x.n : Int) < 0) || decide ((4 : Int) ≤ x.n)))) = C2
  cases C1 with
  | true => rfl
  | false =>
  cases C2 with
  | true => rfl
  | false =>
  simp only [cond_false, he, bnd, t0, t1]
  cases e with
  | true =>
    by_cases hy : e1 = 0
    · subst hy; cases f <;> rfl
    · simp only [cond_true, dF hy, dT hy, Bool.false_and, cond_false]
  | false => cases f <;> rfl
def StOk (x : GStmt) (b : List Fun) (c : Int) (N : Nat) : Prop := ∃ r, source_stmt x b c = some r ∧ ∀ (F0 : List GStmt → List Fun → Int → Option Int) (a : List GStmt) (nx : Unit → Option Int), wandererref_checkStmts_b35 N F0 a b c x () nx =
    bif decide (r ≠ 0) then some r else (F0 x.a b c).bind fun y => bif decide (y ≠ 0) then some y else (F0 x.b b c).bind fun z => bif decide (z ≠ 0) then some z else nx ()
theorem stmtEq (x : GStmt) (b : List Fun) (c : Int) (N : Nat) (hN : 100 ≤ N) : StOk x b c N := by
  obtain ⟨e1, h1, h2⟩ := exprEq x.e b c N hN
  obtain ⟨f1, h3, h4⟩ := exprEq x.f b c N hN
  have hj : ∀ (n e f a' b' : Bool), source_stmt_j2 x b c n e f a' b' = some (stR x c e1 f1 n e f a' b') := by
    intro n e f a' b'
    unfold source_stmt_j2 source_stmt_j3 stR
    rw [h1, h3]
    generalize ((((((!n) && decide ((x.n : Int) ≠ 0)) || ((!e) && decide ((0 : Int) < (x.e.length : Int)))) || ((!f) && decide ((0 : Int) < (x.f.length : Int)))) || ((!a') && decide ((0 : Int) < (x.a.length : Int)))) || ((!b') && decide ((0 : Int) < (x.b.length : Int)))) = C1
    generalize ((decide ((x.kind : Int) = 1) && (decide ((x.n : Int) < 0) || decide ((c : Int) ≤ x.n))) || (decide ((x.kind : Int) = 2) && (decide ((x.n : Int) < 0) || decide ((4 : Int) ≤ x.n)))) = C2
    simp only [bnd]
    cases C1 with
    | true => rfl
    | false =>
    cases C2 with
    | true => rfl
    | false =>
    cases e with
    | true =>
      simp only [cond_false, cond_true]
      cases decide (e1 ≠ 0) <;> cases f <;> rfl
    | false => cases f <;> rfl
  have done : ∀ (L : Str) (n e f a' b' : Bool), lk x.kind tabS = some L → hasB L 78 = n → hasB L 69 = e → hasB L 70 = f → hasB L 65 = a' → hasB L 66 = b' → source_stmt x b c = source_stmt_j2 x b c n e f a' b' → StOk x b c N :=
    fun L n e f a' b' g0 g1 g2 g3 g4 g5 g6 => ⟨stR x c e1 f1 n e f a' b', g6.trans (hj n e f a' b'), docStmt x b c e1 f1 N h2 h4 g0 g1 g2 g3 g4 g5⟩
  by_cases k1 : x.kind = 1
  · exact done [78, 69] true true false false false (by rw [k1]; rfl) (by decide) (by decide) (by decide) (by decide) (by decide) (by unfold source_stmt; rw [k1]; rfl)
  by_cases k2 : x.kind = 2
  · exact done [78, 69, 70] true true true false false (by rw [k2]; rfl) (by decide) (by decide) (by decide) (by decide) (by decide) (by unfold source_stmt; rw [k2]; rfl)
  by_cases k3 : x.kind = 3
  · exact done [69] false true false false false (by rw [k3]; rfl) (by decide) (by decide) (by decide) (by decide) (by decide) (by unfold source_stmt source_stmt_j4; rw [k3]; rfl)
  by_cases k4 : x.kind = 4
  · exact done [] false false false false false (by rw [k4]; rfl) (by decide) (by decide) (by decide) (by decide) (by decide) (by unfold source_stmt source_stmt_j4; rw [k4]; rfl)
  by_cases k5 : x.kind = 5
  · exact done [69] false true false false false (by rw [k5]; rfl) (by decide) (by decide) (by decide) (by decide) (by decide) (by unfold source_stmt source_stmt_j4; rw [k5]; rfl)
  by_cases k6 : x.kind = 6
  · exact done [69, 65, 66] false true false true true (by rw [k6]; rfl) (by decide) (by decide) (by decide) (by decide) (by decide) (by unfold source_stmt source_stmt_j4; rw [k6]; rfl)
  by_cases k7 : x.kind = 7
  · exact done [69, 65] false true false true false (by rw [k7]; rfl) (by decide) (by decide) (by decide) (by decide) (by decide) (by unfold source_stmt source_stmt_j4; rw [k7]; rfl)
  by_cases k8 : x.kind = 8
  · exact done [69] false true false false false (by rw [k8]; rfl) (by decide) (by decide) (by decide) (by decide) (by decide) (by unfold source_stmt source_stmt_j4; rw [k8]; rfl)
  refine ⟨4, ?_, fun F0 a nx => ?_⟩
  · unfold source_stmt source_stmt_j4; rw [dF k1, dF k2, dF k3, dF k4, dF k5, dF k6, dF k7, dF k8]; rfl
  · unfold wandererref_checkStmts_b35
    rw [show lk x.kind ([(1, [78, 69]), (2, [78, 69, 70]), (3, [69]), (4, []), (5, [69]), (6, [69, 65, 66]), (7, [69, 65]), (8, [69])] : List (Int × Str)) = none by simp [lk, k1, k2, k3, k4, k5, k6, k7, k8]]
    rfl

theorem sz_a (x : GStmt) : SizeOf.sizeOf x.a < SizeOf.sizeOf x := by cases x; simp; omega
theorem sz_b (x : GStmt) : SizeOf.sizeOf x.b < SizeOf.sizeOf x := by cases x; simp; omega
theorem stmtsEq (b : List Fun) (c : Int) : ∀ (d : Nat) (l : List GStmt) (N : Nat), SizeOf.sizeOf l < d → d + 100 ≤ N → ∃ r, source_stmts N l b c = some r ∧ wandererref_checkStmts N l b c = some r
  | 0, _, _, h, _ => absurd h (Nat.not_lt_zero _)
  | d + 1, l, 0, h, hN => by omega
  | d + 1, l, N + 1, h, hN => by
    have ih := fun l' (h' : SizeOf.sizeOf l' < d) => stmtsEq b c d l' N h' (by omega)
    show ∃ r, source_stmts_r (source_stmts N) l b c = some r ∧ wandererref_checkStmts_r N (wandererref_checkStmts N) l b c = some r
    unfold source_stmts_r wandererref_checkStmts_r
    generalize hl0 : l = l0
    have : ∀ (k : List GStmt), SizeOf.sizeOf k ≤ d → ∃ r, each (source_stmts_b3 (source_stmts N) b c l0) source_stmts_k4 k () = some r ∧ each (wandererref_checkStmts_b35 N (wandererref_checkStmts N) l0 b c) wandererref_checkStmts_k36 k () = some r := by
      intro k
      induction k with
      | nil => intro _; exact ⟨0, rfl, rfl⟩
      | cons x k ihk =>
        intro hk
        simp at hk
        obtain ⟨r, h1, h2⟩ := ihk (by omega)
        have ha := sz_a x
        have hb := sz_b x
        obtain ⟨s, g1, g2⟩ := stmtEq x b c N (by omega)
        obtain ⟨u, g3, g4⟩ := ih x.a (by omega)
        obtain ⟨v, g5, g6⟩ := ih x.b (by omega)
        rw [each_cons, each_cons, g2]
        generalize each (source_stmts_b3 (source_stmts N) b c l0) source_stmts_k4 k = nx at h1 ⊢
        generalize each (wandererref_checkStmts_b35 N (wandererref_checkStmts N) l0 b c) wandererref_checkStmts_k36 k = nx2 at h2 ⊢
        unfold source_stmts_b3
        rw [g1, g3, g4, g5, g6]
        simp only [bnd]
        cases decide (s ≠ 0) with
        | true => exact ⟨s, rfl, rfl⟩
        | false =>
        cases decide (u ≠ 0) with
        | true => exact ⟨u, rfl, rfl⟩
        | false =>
        cases decide (v ≠ 0) with
        | true => exact ⟨v, rfl, rfl⟩
        | false => exact ⟨r, h1, h2⟩
    subst hl0
    exact this l (by omega)
-- how many statements
theorem countEq : ∀ (k : Nat) (l : List GStmt) (N : Nat), k < N → k ≤ 4 → ∃ r, source_count N l (5 - (k : Int)) = some r ∧ wandererref_sized N l (k : Int) = some r ∧ 0 ≤ r.1 ∧ r.1 ≤ 30
  | 0, l, N + 1, h, hk => ⟨(0, false), rfl, rfl, by decide, by decide⟩
  | k + 1, l, N + 1, h, hk => by
    have ih := fun l' => countEq k l' N (by omega) (by omega)
    show ∃ r, source_count_r (source_count N) l (5 - ((k + 1 : Nat) : Int)) = some r ∧ wandererref_sized_r (wandererref_sized N) l ((k + 1 : Nat) : Int) = some r ∧ _
    unfold source_count_r wandererref_sized_r
    rw [dF (by omega), dF (by omega)]
    simp only [cond_false]
    generalize hl0 : l = l0
    have : ∀ (m : List GStmt) (n : Int), 0 ≤ n → n ≤ 30 → ∃ r, each (source_count_b27 (source_count N) l0 (5 - ((k + 1 : Nat) : Int))) source_count_k28 m n = some r ∧ each (wandererref_sized_b123 (wandererref_sized N) ((k + 1 : Nat) : Int) l0) wandererref_sized_k124 m n = some r ∧ 0 ≤ r.1 ∧ r.1 ≤ 30 := by
      intro m
      induction m with
      | nil => intro n h1 h2; exact ⟨(n, true), rfl, rfl, h1, h2⟩
      | cons x m ihm =>
        intro n h1 h2
        rw [each_cons, each_cons]
        generalize each (source_count_b27 (source_count N) l0 (5 - ((k + 1 : Nat) : Int))) source_count_k28 m = nx at ihm ⊢
        generalize each (wandererref_sized_b123 (wandererref_sized N) ((k + 1 : Nat) : Int) l0) wandererref_sized_k124 m = nx2 at ihm ⊢
        obtain ⟨ra, a1, a2, a3, a4⟩ := ih x.a
        obtain ⟨rb, b1, b2, b3, b4⟩ := ih x.b
        have e1 : (5 - ((k + 1 : Nat) : Int)) + 1 = 5 - (k : Int) := by omega
        have e2 : ((k + 1 : Nat) : Int) - 1 = (k : Int) := by omega
        unfold source_count_b27 wandererref_sized_b123
        rw [gI (x := n + 1), gI (x := n + 1)]
        have hup : ∀ y, each (wandererref_sized_b121 (wandererref_sized N) ((k + 1 : Nat) : Int)) (wandererref_sized_k122 nx2) [x.a, x.b] y =
          wandererref_sized_b121 (wandererref_sized N) ((k + 1 : Nat) : Int) x.a y (wandererref_sized_b121 (wandererref_sized N) ((k + 1 : Nat) : Int) x.b · (wandererref_sized_k122 nx2)) := fun _ => rfl
        rw [hup]
        have hB : ∀ (p : List GStmt) (rp : Int × Bool) y nx3, wandererref_sized N p (k : Int) = some rp → 0 ≤ rp.1 → rp.1 ≤ 30 → 0 ≤ y → y ≤ 100 → wandererref_sized_b121 (wandererref_sized N) ((k + 1 : Nat) : Int) p y nx3 =
            if p.length = 0 then nx3 y else bif ((!rp.2) || decide ((30 : Int) < y + rp.1)) then some (0, false) else nx3 (y + rp.1) := by
          intro p rp y nx3 hp h3 h4 h5 h6
          unfold wandererref_sized_b121 wandererref_sized_j120
          by_cases h0 : p.length = 0
          · rw [dF (by omega), if_pos h0]; rfl
          · rw [dT (by omega), if_neg h0, gI, e2, hp]
            simp only [cond_true, bnd]
            rw [gI]
        have hB0 : ∀ y nx3, 0 ≤ y → y ≤ 100 → wandererref_sized_b121 (wandererref_sized N) ((k + 1 : Nat) : Int) x.a y nx3 = if x.a.length = 0 then nx3 y else bif ((!ra.2) || decide ((30 : Int) < y + ra.1)) then some (0, false) else nx3 (y + ra.1) :=
          fun y nx3 h5 h6 => hB x.a ra y nx3 a2 a3 a4 h5 h6
        rw [hB0 _ _ (by omega) (by omega)]
        have hB1 : ∀ y nx3, 0 ≤ y → y ≤ 100 → wandererref_sized_b121 (wandererref_sized N) ((k + 1 : Nat) : Int) x.b y nx3 = if x.b.length = 0 then nx3 y else bif ((!rb.2) || decide ((30 : Int) < y + rb.1)) then some (0, false) else nx3 (y + rb.1) :=
          fun y nx3 h5 h6 => hB x.b rb y nx3 b2 b3 b4 h5 h6
        have hA : ∀ y, 0 ≤ y → y ≤ 100 → source_count_j25 (source_count N) x (5 - ((k + 1 : Nat) : Int)) nx y = if x.b.length = 0 then nx y else bif ((!rb.2) || decide ((30 : Int) < y + rb.1)) then some (0, false) else nx (y + rb.1) := by
          intro y h3 h4
          unfold source_count_j25 source_count_j26
          by_cases h0 : x.b.length = 0
          · rw [dT (by omega), if_pos h0]; rfl
          · rw [dF (by omega), if_neg h0, gI, e1, b1]
            simp only [cond_false, bnd]
            rw [gI]
        -- the end
        have fin : ∀ y, 0 ≤ y → y ≤ 30 → ∃ r, nx y = some r ∧ wandererref_sized_k122 nx2 y = some r ∧ 0 ≤ r.1 ∧ r.1 ≤ 30 := by
          intro y h3 h4
          unfold wandererref_sized_k122
          rw [dF (by omega)]
          exact ihm y h3 h4
        have zero : ∀ r : Int × Bool, r = (0, false) → 0 ≤ r.1 ∧ r.1 ≤ 30 := by rintro r rfl; exact ⟨by decide, by decide⟩
        have tail : ∀ y, 0 ≤ y → y ≤ 30 → ∃ r, (if x.b.length = 0 then nx y else bif ((!rb.2) || decide ((30 : Int) < y + rb.1)) then some (0, false) else nx (y + rb.1)) = some r ∧
            (if x.b.length = 0 then wandererref_sized_k122 nx2 y else bif ((!rb.2) || decide ((30 : Int) < y + rb.1)) then some (0, false) else wandererref_sized_k122 nx2 (y + rb.1)) = some r ∧ 0 ≤ r.1 ∧ r.1 ≤ 30 := by
          intro y h3 h4
          by_cases h0 : x.b.length = 0
          · rw [if_pos h0, if_pos h0]; exact fin y h3 h4
          · rw [if_neg h0, if_neg h0]
            cases hc : ((!rb.2) || decide ((30 : Int) < y + rb.1)) with
            | true => exact ⟨(0, false), rfl, rfl, zero _ rfl⟩
            | false =>
              simp only [Bool.or_eq_false_iff, decide_eq_false_iff_not] at hc
              exact fin _ (by omega) (by omega)
        by_cases h30 : 30 < n + 1
        · rw [dT h30]
          simp only [cond_true]
          have big : ∀ y, 30 < y → y ≤ 100 → wandererref_sized_b121 (wandererref_sized N) ((k + 1 : Nat) : Int) x.b y (wandererref_sized_k122 nx2) = some (0, false) := by
            intro y h3 h4
            rw [hB1 y _ (by omega) h4]
            by_cases h0 : x.b.length = 0
            · rw [if_pos h0]; unfold wandererref_sized_k122; rw [dT h3]; rfl
            · rw [if_neg h0, show decide ((30 : Int) < y + rb.1) = true from dT (by omega)]; simp
          refine ⟨(0, false), rfl, ?_, zero _ rfl⟩
          by_cases h0 : x.a.length = 0
          · rw [if_pos h0]; exact big _ h30 (by omega)
          · rw [if_neg h0, show decide ((30 : Int) < n + 1 + ra.1) = true from dT (by omega)]; simp
        · rw [dF h30]
          simp only [cond_false]
          by_cases h0 : x.a.length = 0
          · rw [dT (show (x.a.length : Int) = 0 by omega), if_pos h0]
            simp only [cond_true]
            rw [hA _ (by omega) (by omega), hB1 _ _ (by omega) (by omega)]
            exact tail _ (by omega) (by omega)
          · rw [dF (show ¬ (x.a.length : Int) = 0 by omega), if_neg h0]
            simp only [cond_false]
            rw [gI, e1, a1]
            simp only [bnd]
            rw [gI]
            cases hc : ((!ra.2) || decide ((30 : Int) < n + 1 + ra.1)) with
            | true => exact ⟨(0, false), rfl, rfl, zero _ rfl⟩
            | false =>
              simp only [Bool.or_eq_false_iff, decide_eq_false_iff_not] at hc
              simp only [cond_false]
              rw [hA _ (by omega) (by omega), hB1 _ _ (by omega) (by omega)]
              exact tail _ (by omega) (by omega)
    subst hl0
    exact this l 0 (by omega) (by omega)
end Src
end Go.Proofs.YtckocfgmnlhcmaaGreatDoor

namespace Go.Proofs.YtckocfgmnlhcmaaGreatDoor
namespace Src
open Go Go.Proofs Go.LX
theorem szB (a : List Fun) : ∃ B : Nat, ∀ x ∈ a, SizeOf.sizeOf x.body ≤ B := by
  induction a with
  | nil => exact ⟨0, fun x h => by cases h⟩
  | cons y r ih =>
    obtain ⟨B, hB⟩ := ih
    refine ⟨B + SizeOf.sizeOf y.body, fun x hx => ?_⟩
    rcases List.mem_cons.1 hx with rfl | h
    · omega
    · have := hB x h; omega
theorem CheckEq (a : List Fun) (N : Nat) (hN : ∀ x ∈ a, SizeOf.sizeOf x.body + 200 < N) (hN0 : 200 < N) : ∃ r, source_Check N a = some r ∧ wandererref_CheckSource N a = some r := by
  unfold source_Check wandererref_CheckSource
  have e0 : (!(wandererref_in (a.length : Int) 1 4)) = (decide ((a.length : Int) = 0) || decide (4 < (a.length : Int))) := by
    have hn : 0 ≤ (a.length : Int) := by omega
    unfold wandererref_in
    generalize (a.length : Int) = n at hn ⊢
    rw [Bool.eq_iff_iff]; simp; omega
  rw [e0]
  cases (decide ((a.length : Int) = 0) || decide (4 < (a.length : Int))) with
  | true => exact ⟨2, rfl, rfl⟩
  | false =>
  simp only [cond_false]
  have last : ∃ r, source_Check_k8 N a () = some r ∧ wandererref_CheckSource_k8 N a () = some r := by
    unfold source_Check_k8 wandererref_CheckSource_k8
    have key : ∀ (k : List Fun), (∀ x ∈ k, SizeOf.sizeOf x.body + 200 < N) → ∃ r, each (source_Check_b5 N a) source_Check_k6 k () = some r ∧ each (wandererref_CheckSource_b5 N a) wandererref_CheckSource_k6 k () = some r := by
      intro k
      induction k with
      | nil => intro _; exact ⟨0, rfl, rfl⟩
      | cons x k ihk =>
        intro hk
        obtain ⟨r, h1, h2⟩ := ihk (fun y hy => hk y (List.mem_cons_of_mem _ hy))
        rw [each_cons, each_cons]
        generalize each (source_Check_b5 N a) source_Check_k6 k = nx at h1 ⊢
        generalize each (wandererref_CheckSource_b5 N a) wandererref_CheckSource_k6 k = nx2 at h2 ⊢
        have hx := hk x List.mem_cons_self
        obtain ⟨u, g1, g2, _⟩ := countEq 4 x.body N (by omega) (by omega)
        obtain ⟨v, g3, g4⟩ := stmtsEq a x.locals (SizeOf.sizeOf x.body + 1) x.body N (by omega) (by omega)
        rw [show (5 - ((4 : Nat) : Int)) = 1 from rfl] at g1
        rw [show ((4 : Nat) : Int) = 4 from rfl] at g2
        unfold source_Check_b5 wandererref_CheckSource_b5
        simp only [g1, g2, g3, g4, bnd]
        cases u.2 with
        | false => exact ⟨2, rfl, rfl⟩
        | true =>
        cases decide (v ≠ 0) with
        | true => exact ⟨v, rfl, rfl⟩
        | false => exact ⟨r, h1, h2⟩
    exact key a hN
  obtain ⟨r, h1, h2⟩ := last
  generalize source_Check_k8 N a = k1 at h1 ⊢
  generalize wandererref_CheckSource_k8 N a = k2 at h2 ⊢
  have key : ∀ (k : List Fun) (i : Int), ∃ r, eachI source_Check_b7 k1 i k () = some r ∧ eachI wandererref_CheckSource_b7 k2 i k () = some r := by
    intro k
    induction k with
    | nil => intro i; exact ⟨r, h1, h2⟩
    | cons x k ihk =>
      intro i
      obtain ⟨s, g1, g2⟩ := ihk (i + 1)
      rw [eachI_cons, eachI_cons]
      generalize eachI source_Check_b7 k1 (i + 1) k = nx at g1 ⊢
      generalize eachI wandererref_CheckSource_b7 k2 (i + 1) k = nx2 at g2 ⊢
      unfold source_Check_b7 wandererref_CheckSource_b7 wandererref_in
      have e : (((!(decide ((0 : Int) ≤ x.params) && decide (x.params ≤ 3))) || (!(decide (x.params ≤ x.locals) && decide (x.locals ≤ 6)))) || (decide (i = 0) && decide (x.params ≠ 0))) = ((((decide ((x.params : Int) < 0) || decide ((3 : Int) < x.params)) || decide ((x.locals : Int) < x.params)) || decide ((6 : Int) < x.locals)) || (decide ((i : Int) = 0) && decide ((0 : Int) < x.params))) := by
        rw [Bool.eq_iff_iff]; simp; omega
      rw [e]
      cases ((((decide ((x.params : Int) < 0) || decide ((3 : Int) < x.params)) || decide ((x.locals : Int) < x.params)) || decide ((6 : Int) < x.locals)) || (decide ((i : Int) = 0) && decide ((0 : Int) < x.params))) with
      | true => exact ⟨3, rfl, rfl⟩
      | false => exact ⟨s, g1, g2⟩
  exact key a 0
end Src
end Go.Proofs.YtckocfgmnlhcmaaGreatDoor
