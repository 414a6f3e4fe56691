/-
  Plain laws.
-/
import Derived.Test.YtkjajililnbimaaSrcLaw
import Derived.Test.YtkjajililnbimaaSrp
set_option linter.unusedSimpArgs false
set_option linter.unusedVariables false
namespace Go.Proofs.Ytkjajililnbimaa
open Go Go.Proofs Go.LX
def pars (b : List Fun) : List Int := b.map (·.params)
theorem pars_idx {b b' : List Fun} (h : pars b = pars b') (k : Int) : (idx b k).map (·.params) = (idx b' k).map (·.params) := by
  have : ∀ c : List Fun, (idx c k).map (·.params) = idx (pars c) k := by
    intro c; unfold idx pars; split <;> simp
  rw [this, this, h]
theorem tokP {b b' : List Fun} (h : pars b = pars b') (a : Tok) (c : Int) : source_tok a b c = source_tok a b' c := by
  have hl : b.length = b'.length := by have := congrArg List.length h; simpa [pars] using this
  have h1 := pars_idx h a.n
  unfold source_tok
  have : ∀ o o' : Option Fun, o.map (·.params) = o'.map (·.params) → (o.bind fun x12 => some (x12.params, (0 : Int))) = o'.bind fun x12 => some (x12.params, (0 : Int)) := by
    intro o o' ho
    cases o <;> cases o' <;> simp_all
  rw [hl, this _ _ h1]
theorem okP_pars {b b' : List Fun} (h : pars b = pars b') : okP b = okP b' := by
  have : ∀ c : List Fun, okP c = (pars c).all fun p => decide (0 ≤ p) && decide (p ≤ 3) := by
    intro c; unfold okP pars; rw [List.all_map]; rfl
  rw [this, this, h]
theorem exprP {b b' : List Fun} (h : pars b = pars b') (a : List Tok) (c : Int) : source_Expr a b c = source_Expr a b' c := by
  rw [expr1, expr1, okP_pars h]
  have : source_Expr_b29 b c = source_Expr_b29 b' c := by
    funext x s nx
    unfold source_Expr_b29
    rw [tokP h]
  rw [this]
theorem stmtP {b b' : List Fun} (h : pars b = pars b') (x : GStmt) (c : Int) : source_stmt x b c = source_stmt x b' c := by
  unfold source_stmt source_stmt_j4 source_stmt_j2 source_stmt_j3
  rw [exprP h, exprP h]
theorem stmtsP {b b' : List Fun} (h : pars b = pars b') (c : Int) : ∀ (N : Nat) (l : List GStmt), source_stmts N l b c = source_stmts N l b' c
  | 0, _ => rfl
  | N + 1, l => by
    have ih := stmtsP h c N
    show source_stmts_r (source_stmts N) l b c = source_stmts_r (source_stmts N) l b' c
    unfold source_stmts_r
    have : source_stmts_b3 (source_stmts N) b c l = source_stmts_b3 (source_stmts N) b' c l := by
      funext x s nx
      unfold source_stmts_b3
      rw [stmtP h]
      simp only [ih]
    rw [this]
/-- One statement is one, with what is in it. -/
def okS (N : Nat) (b : List Fun) (c : Int) (x : GStmt) : Prop := source_stmts_b3 (source_stmts N) b c [] x () (fun _ => some 0) = some 0
theorem b3_eq (N : Nat) (b : List Fun) (c : Int) (l : List GStmt) (x : GStmt) (nx : Unit → Option Int) (h : okS N b c x) : source_stmts_b3 (source_stmts N) b c l x () nx = nx () := by
  unfold okS source_stmts_b3 at h
  unfold source_stmts_b3
  obtain ⟨y1, h1, h⟩ := o_bind h
  rw [h1]
  by_cases e1 : y1 = 0
  · subst e1
    simp only [ne_eq, not_true_eq_false, decide_false, cond_false] at h
    obtain ⟨y2, h2, h⟩ := o_bind h
    rw [h2]
    by_cases e2 : y2 = 0
    · subst e2
      simp only [ne_eq, not_true_eq_false, decide_false, cond_false] at h
      obtain ⟨y3, h3, h⟩ := o_bind h
      rw [h3]
      by_cases e3 : y3 = 0
      · subst e3; rfl
      · rw [dT e3] at h; simp only [cond_true] at h; exact absurd (Option.some.inj h) e3
    · rw [dT e2] at h; simp only [cond_true] at h; exact absurd (Option.some.inj h) e2
  · rw [dT e1] at h; simp only [cond_true] at h; exact absurd (Option.some.inj h) e1
theorem b3_back (N : Nat) (b : List Fun) (c : Int) (l : List GStmt) (x : GStmt) (nx : Unit → Option Int) (h : source_stmts_b3 (source_stmts N) b c l x () nx = some 0) : okS N b c x ∧ nx () = some 0 := by
  unfold source_stmts_b3 at h
  unfold okS source_stmts_b3
  obtain ⟨y1, h1, h⟩ := o_bind h
  rw [h1]
  by_cases e1 : y1 = 0
  · subst e1
    simp only [ne_eq, not_true_eq_false, decide_false, cond_false] at h
    obtain ⟨y2, h2, h⟩ := o_bind h
    rw [h2]
    by_cases e2 : y2 = 0
    · subst e2
      simp only [ne_eq, not_true_eq_false, decide_false, cond_false] at h
      obtain ⟨y3, h3, h⟩ := o_bind h
      rw [h3]
      by_cases e3 : y3 = 0
      · subst e3; exact ⟨rfl, h⟩
      · rw [dT e3] at h; simp only [cond_true] at h; exact absurd (Option.some.inj h) e3
    · rw [dT e2] at h; simp only [cond_true] at h; exact absurd (Option.some.inj h) e2
  · rw [dT e1] at h; simp only [cond_true] at h; exact absurd (Option.some.inj h) e1
theorem stmts_iff (N : Nat) (b : List Fun) (c : Int) (l : List GStmt) : source_stmts (N + 1) l b c = some 0 ↔ ∀ x ∈ l, okS N b c x := by
  show source_stmts_r (source_stmts N) l b c = some 0 ↔ _
  unfold source_stmts_r
  generalize l = l0 at *
  have : ∀ l : List GStmt, each (source_stmts_b3 (source_stmts N) b c l0) source_stmts_k4 l () = some 0 ↔ ∀ x ∈ l, okS N b c x := by
    intro l
    induction l with
    | nil => simp [each_nil, source_stmts_k4]
    | cons x r ih =>
      rw [each_cons]
      constructor
      · intro h
        have := b3_back N b c l0 x _ h
        intro y hy
        rcases List.mem_cons.1 hy with rfl | hy
        · exact this.1
        · exact ih.1 this.2 y hy
      · intro h
        rw [b3_eq N b c l0 x _ (h x List.mem_cons_self)]
        exact ih.2 (fun y hy => h y (List.mem_cons_of_mem _ hy))
  exact this l0
-- counting
def cw (N : Nat) (x : GStmt) : Option Int :=
  (if x.a.length = 0 then some 0 else (source_count N x.a 2).bind fun r => if r.2 then some r.1 else none).bind fun p =>
  (if x.b.length = 0 then some 0 else (source_count N x.b 2).bind fun r => if r.2 then some r.1 else none).bind fun q => some (1 + p + q)
def sumw (N : Nat) : List GStmt → Option Int
  | [] => some 0
  | x :: r => (cw N x).bind fun w => (sumw N r).bind fun s => some (w + s)
theorem part_ok (N : Nat) (hN : 3 < N) (l : List GStmt) : ∃ o, (if l.length = 0 then some 0 else (source_count N l 2).bind fun r => if r.2 then some r.1 else none) = o ∧ (∀ p, o = some p → 0 ≤ p ∧ p ≤ 30) := by
  refine ⟨_, rfl, fun p hp => ?_⟩
  split at hp
  · cases hp; omega
  · obtain ⟨r, h1, _, h2, h3⟩ := countEq 3 l N hN (by omega)
    rw [show (5 - ((3 : Nat) : Int)) = 2 from rfl] at h1
    rw [h1] at hp
    simp only [bnd] at hp
    split at hp
    · cases hp; exact ⟨h2, h3⟩
    · cases hp
theorem cw_pos (N : Nat) (hN : 3 < N) (x : GStmt) (w : Int) (h : cw N x = some w) : 1 ≤ w ∧ w ≤ 61 := by
  unfold cw at h
  obtain ⟨p, h1, h⟩ := o_bind h
  obtain ⟨q, h2, h⟩ := o_bind h
  obtain ⟨o1, e1, g1⟩ := part_ok N hN x.a
  obtain ⟨o2, e2, g2⟩ := part_ok N hN x.b
  have := g1 p (e1.symm.trans h1)
  have := g2 q (e2.symm.trans h2)
  cases h
  omega
theorem sumw_nn (N : Nat) (hN : 3 < N) : ∀ (l : List GStmt) (s : Int), sumw N l = some s → 0 ≤ s
  | [], s, h => by cases h; omega
  | x :: r, s, h => by
    obtain ⟨w, h1, h⟩ := o_bind h
    obtain ⟨t, h2, h⟩ := o_bind h
    have := cw_pos N hN x w h1
    have := sumw_nn N hN r t h2
    cases h; omega
theorem stepC (N : Nat) (hN : 3 < N) (l : List GStmt) (x : GStmt) (n : Int) (h0 : 0 ≤ n) (h30 : n ≤ 30) (nx : Int → Option (Int × Bool)) :
    source_count_b27 (source_count N) l 1 x n nx = match cw N x with | none => some (0, false) | some w => if n + w ≤ 30 then nx (n + w) else some (0, false) := by
  obtain ⟨ra, a1, _, a3, a4⟩ := countEq 3 x.a N hN (by omega)
  obtain ⟨rb, b1, _, b3, b4⟩ := countEq 3 x.b N hN (by omega)
  rw [show (5 - ((3 : Nat) : Int)) = 2 from rfl] at a1 b1
  unfold source_count_b27 source_count_j25 source_count_j26 cw
  rw [gI]
  simp only [show (1 : Int) + 1 = 2 from rfl]
  rw [a1, b1]
  simp only [bnd]
  by_cases hbig : 30 < n + 1
  · rw [dT hbig]
    simp only [cond_true]
    generalize hp : (if x.a.length = 0 then some 0 else if ra.2 then some ra.1 else none) = p
    generalize hq : (if x.b.length = 0 then some 0 else if rb.2 then some rb.1 else none) = q
    cases p with
    | none => rfl
    | some p =>
    cases q with
    | none => rfl
    | some q =>
      have hp0 : 0 ≤ p := by
        split at hp
        · cases hp; omega
        · split at hp <;> cases hp; exact a3
      have hq0 : 0 ≤ q := by
        split at hq
        · cases hq; omega
        · split at hq <;> cases hq; exact b3
      simp only [bnd]
      rw [if_neg (by omega)]
  · rw [dF hbig]
    simp only [cond_false]
    have tail : ∀ m p, m = n + 1 + p → 0 ≤ m → m ≤ 30 → (bif decide ((x.b.length : Int) = 0) then nx m else grd (I64 (2 : Int)) (grd (I64 (m + rb.1)) (bif ((!rb.2) || decide ((30 : Int) < m + rb.1)) then some (0, false) else nx (m + rb.1)))) =
        match ((if x.b.length = 0 then some 0 else if rb.2 then some rb.1 else none).bind fun q => some (1 + p + q)) with | none => some (0, false) | some w => if n + w ≤ 30 then nx (n + w) else some (0, false) := by
      intro m p hm h1 h2
      by_cases hb : x.b.length = 0
      · rw [dT (by omega), if_pos hb]
        simp only [cond_true, bnd]
        rw [if_pos (by omega)]
        congr 1; omega
      · rw [dF (by omega), if_neg hb]
        simp only [cond_false]
        rw [gI, gI]
        cases hr : rb.2 with
        | false => rfl
        | true =>
          simp only [Bool.not_true, Bool.false_or, if_true, bnd]
          by_cases h3 : 30 < m + rb.1
          · rw [dT h3, if_neg (by omega)]; rfl
          · rw [dF h3, if_pos (by omega)]
            simp only [cond_false]
            congr 1; omega
    by_cases ha : x.a.length = 0
    · rw [dT (by omega), if_pos ha]
      simp only [cond_true, bnd]
      exact tail (n + 1) 0 (by omega) (by omega) (by omega)
    · rw [dF (by omega), if_neg ha]
      simp only [cond_false]
      rw [gI, gI]
      cases hr : ra.2 with
      | false => rfl
      | true =>
        simp only [Bool.not_true, Bool.false_or, if_true, bnd]
        by_cases h3 : 30 < n + 1 + ra.1
        · rw [dT h3]
          simp only [cond_true]
          generalize hq : (if x.b.length = 0 then some 0 else if rb.2 then some rb.1 else none) = q
          cases q with
          | none => rfl
          | some q =>
            have hq0 : 0 ≤ q := by
              split at hq
              · cases hq; omega
              · split at hq <;> cases hq; exact b3
            simp only [bnd]
            rw [if_neg (by omega)]
        · rw [dF h3]
          simp only [cond_false]
          exact tail (n + 1 + ra.1) ra.1 rfl (by omega) (by omega)
theorem eachC (N : Nat) (hN : 3 < N) (l0 : List GStmt) : ∀ (m : List GStmt) (n : Int), 0 ≤ n → n ≤ 30 → each (source_count_b27 (source_count N) l0 1) source_count_k28 m n = match sumw N m with | none => some (0, false) | some s => if n + s ≤ 30 then some (n + s, true) else some (0, false)
  | [], n, h0, h30 => by
    show some (n, true) = if n + 0 ≤ 30 then some (n + 0, true) else some (0, false)
    rw [if_pos (by omega), Int.add_zero]
  | x :: r, n, h0, h30 => by
    rw [each_cons, stepC N hN l0 x n h0 h30]
    show _ = match ((cw N x).bind fun w => (sumw N r).bind fun s => some (w + s)) with | none => some (0, false) | some s => if n + s ≤ 30 then some (n + s, true) else some (0, false)
    cases hw : cw N x with
    | none => rfl
    | some w =>
      have hp := cw_pos N hN x w hw
      simp only [bnd]
      by_cases h : n + w ≤ 30
      · rw [if_pos h, eachC N hN l0 r (n + w) (by omega) h]
        cases sumw N r with
        | none => rfl
        | some s =>
          simp only [bnd]
          rw [Int.add_assoc]
      · rw [if_neg h]
        cases hs : sumw N r with
        | none => rfl
        | some s =>
          have := sumw_nn N hN r s hs
          simp only [bnd]
          rw [if_neg (by omega)]
theorem count_eq (N : Nat) (hN : 3 < N) (l : List GStmt) : source_count (N + 1) l 1 = match sumw N l with | none => some (0, false) | some s => if s ≤ 30 then some (s, true) else some (0, false) := by
  show source_count_r (source_count N) l 1 = _
  unfold source_count_r
  rw [dF (by omega)]
  simp only [cond_false]
  rw [eachC N hN l l 0 (by omega) (by omega)]
  cases sumw N l with
  | none => rfl
  | some s => simp only [Int.zero_add]
theorem sumw_app (N : Nat) : ∀ (a b : List GStmt), sumw N (a ++ b) = (sumw N a).bind fun s => (sumw N b).bind fun t => some (s + t)
  | [], b => by
    simp only [List.nil_append, sumw, bnd, Int.zero_add]
    cases sumw N b <;> rfl
  | x :: r, b => by
    simp only [List.cons_append, sumw, sumw_app N r b]
    cases cw N x with
    | none => rfl
    | some w => cases sumw N r with
      | none => rfl
      | some s => cases sumw N b with
        | none => rfl
        | some t => simp only [bnd, Int.add_assoc]
end Go.Proofs.Ytkjajililnbimaa

namespace Go.Proofs.Ytkjajililnbimaa
open Go Go.Proofs Go.LX
/-- One function is one: its statements are few enough, and are some. -/
def okF (N : Nat) (a : List Fun) (x : Fun) : Prop := (∃ s, sumw N x.body = some s ∧ s ≤ 30) ∧ ∀ y ∈ x.body, okS N a x.locals y
def headOk (i : Int) (x : Fun) : Prop := ((((decide ((x.params : Int) < 0) || decide ((3 : Int) < x.params)) || decide ((x.locals : Int) < x.params)) || decide ((6 : Int) < x.locals)) || (decide ((i : Int) = 0) && decide ((0 : Int) < x.params))) = false
def heads : Int → List Fun → Prop
  | _, [] => True
  | i, x :: r => headOk i x ∧ heads (i + 1) r
theorem count_ok (N : Nat) (hN : 3 < N) (l : List GStmt) {s : Int} (h : sumw N l = some s) (hs : s ≤ 30) : source_count (N + 1) l 1 = some (s, true) := by
  rw [count_eq N hN, h]
  simp only
  rw [if_pos hs]
theorem count_back (N : Nat) (hN : 3 < N) (l : List GStmt) {y : Int × Bool} (h : source_count (N + 1) l 1 = some y) (hy : y.2 = true) : ∃ s, sumw N l = some s ∧ s ≤ 30 := by
  rw [count_eq N hN] at h
  cases hs : sumw N l with
  | none => rw [hs] at h; simp only at h; cases h; cases hy
  | some s =>
    rw [hs] at h
    simp only at h
    by_cases h30 : s ≤ 30
    · exact ⟨s, rfl, h30⟩
    · rw [if_neg h30] at h; cases h; cases hy
theorem bodies_iff (N : Nat) (hN : 3 < N) (a : List Fun) : ∀ (l : List Fun), each (source_Check_b5 (N + 1) a) source_Check_k6 l () = some 0 ↔ ∀ x ∈ l, okF N a x
  | [] => by simp [each_nil, source_Check_k6]
  | x :: r => by
    rw [each_cons]
    have ih := bodies_iff N hN a r
    generalize each (source_Check_b5 (N + 1) a) source_Check_k6 r = nx at ih ⊢
    unfold source_Check_b5
    constructor
    · intro h
      obtain ⟨y, h1, h⟩ := o_bind h
      cases hy : y.2 with
      | false => rw [hy] at h; cases h
      | true =>
        rw [hy] at h
        simp only [Bool.not_true, cond_false] at h
        obtain ⟨z, h2, h⟩ := o_bind h
        by_cases hz : z = 0
        · subst hz
          simp only [ne_eq, not_true_eq_false, decide_false, cond_false] at h
          intro u hu
          rcases List.mem_cons.1 hu with rfl | hu
          · exact ⟨count_back N hN _ h1 hy, (stmts_iff N a u.locals u.body).1 h2⟩
          · exact ih.1 h u hu
        · rw [dT hz] at h; exact absurd (Option.some.inj h) hz
    · intro h
      obtain ⟨⟨s, h1, h2⟩, h3⟩ := h x List.mem_cons_self
      rw [count_ok N hN _ h1 h2, (stmts_iff N a x.locals x.body).2 h3]
      simp only [bnd, Bool.not_true, cond_false, ne_eq, not_true_eq_false, decide_false]
      exact ih.2 (fun y hy => h y (List.mem_cons_of_mem _ hy))
theorem heads_iff {k1 : Unit → Option Int} : ∀ (l : List Fun) (i : Int), eachI source_Check_b7 k1 i l () = some 0 ↔ heads i l ∧ k1 () = some 0
  | [], i => by simp [eachI_nil, heads]
  | x :: r, i => by
    rw [eachI_cons]
    have ih := heads_iff (k1 := k1) r (i + 1)
    generalize eachI source_Check_b7 k1 (i + 1) r = nx at ih ⊢
    unfold source_Check_b7
    simp only [heads, headOk]
    generalize ((((decide ((x.params : Int) < 0) || decide ((3 : Int) < x.params)) || decide ((x.locals : Int) < x.params)) || decide ((6 : Int) < x.locals)) || (decide ((i : Int) = 0) && decide ((0 : Int) < x.params))) = C
    cases C with
    | true => simp
    | false => simp only [cond_false, true_and]; exact ih
theorem check_iff (N : Nat) (hN : 3 < N) (a : List Fun) : source_Check (N + 1) a = some 0 ↔ 1 ≤ a.length ∧ a.length ≤ 4 ∧ heads 0 a ∧ ∀ x ∈ a, okF N a x := by
  unfold source_Check
  have hn : 0 ≤ (a.length : Int) := by omega
  by_cases h : 1 ≤ a.length ∧ a.length ≤ 4
  · rw [show (decide (((a.length : Int) : Int) = 0) || decide ((4 : Int) < (a.length : Int))) = false by rw [dF (by omega), dF (by omega)]; rfl]
    simp only [cond_false]
    rw [heads_iff, show (source_Check_k8 (N + 1) a () = some 0) = (each (source_Check_b5 (N + 1) a) source_Check_k6 a () = some 0) from rfl, bodies_iff N hN a a]
    simp [h]
  · have : (decide (((a.length : Int) : Int) = 0) || decide ((4 : Int) < (a.length : Int))) = true := by
      rcases Nat.lt_or_ge a.length 1 with h1 | h1
      · rw [dT (show (a.length : Int) = 0 by omega)]; rfl
      · rw [dT (show (4 : Int) < (a.length : Int) by omega)]; simp
    rw [this]
    constructor
    · intro h; cases h
    · intro h2; exact absurd ⟨h2.1, h2.2.1⟩ h
theorem heads_set {x y : Fun} (hp : y.params = x.params) (hl : y.locals = x.locals) : ∀ (l : List Fun) (i : Int) (n : Nat), l[n]? = some x → heads i l → heads i (l.set n y)
  | [], _, n, h, _ => by simp at h
  | z :: r, i, 0, h, hh => by
    simp only [List.getElem?_cons_zero, Option.some.injEq] at h
    subst h
    simp only [List.set_cons_zero, heads, headOk, hp, hl] at hh ⊢
    exact hh
  | z :: r, i, n + 1, h, hh => by
    simp only [List.getElem?_cons_succ] at h
    exact ⟨hh.1, heads_set hp hl r (i + 1) n h hh.2⟩
theorem pars_set {x y : Fun} (hp : y.params = x.params) : ∀ (l : List Fun) (n : Nat), l[n]? = some x → pars (l.set n y) = pars l
  | [], n, h => by simp at h
  | z :: r, 0, h => by
    simp only [List.getElem?_cons_zero, Option.some.injEq] at h
    subst h; simp [pars, hp]
  | z :: r, n + 1, h => by
    simp only [List.getElem?_cons_succ] at h
    have := pars_set hp r n h
    simp only [pars, List.set_cons_succ, List.map_cons] at this ⊢
    rw [this]
theorem okS_pars {N : Nat} {b b' : List Fun} (h : pars b = pars b') {c : Int} {x : GStmt} (hx : okS N b c x) : okS N b' c x := by
  unfold okS source_stmts_b3 at hx ⊢
  rw [← stmtP h]
  simp only [← stmtsP h] at hx ⊢
  exact hx
theorem okF_pars {N : Nat} {b b' : List Fun} (h : pars b = pars b') {x : Fun} (hx : okF N b x) : okF N b' x := ⟨hx.1, fun y hy => okS_pars h (hx.2 y hy)⟩
/-- A program stays one where a body's statements are told anew. -/
theorem check_set (N : Nat) (hN : 3 < N) (a : List Fun) (n : Nat) (x : Fun) (hx : a[n]? = some x) (body : List GStmt) (hc : source_Check (N + 1) a = some 0) (hs : ∃ s, sumw N body = some s ∧ s ≤ 30) (hm : ∀ y ∈ body, y ∈ x.body) :
    source_Check (N + 1) (a.set n { x with body := body }) = some 0 := by
  obtain ⟨h1, h2, h3, h4⟩ := (check_iff N hN a).1 hc
  have hp := pars_set (x := x) (y := { x with body := body }) rfl a n hx
  refine (check_iff N hN _).2 ⟨by simpa using h1, by simpa using h2, heads_set (x := x) (y := { x with body := body }) rfl rfl a 0 n hx h3, fun y hy => ?_⟩
  have hxm : x ∈ a := List.mem_of_getElem? hx
  have hox := h4 x hxm
  rcases List.mem_or_eq_of_mem_set hy with hy | rfl
  · exact okF_pars hp.symm (h4 y hy)
  · exact ⟨hs, fun z hz => okS_pars hp.symm (hox.2 z (hm z hz))⟩
/-- .. or they are too many. -/
theorem check_set2 (N : Nat) (hN : 3 < N) (a : List Fun) (n : Nat) (x : Fun) (hx : a[n]? = some x) (body : List GStmt) (hc : source_Check (N + 1) a = some 0) (hs : ∃ s, sumw N body = some s) (hm : ∀ y ∈ body, y ∈ x.body) :
    ∃ r, source_Check (N + 1) (a.set n { x with body := body }) = some r ∧ (r = 0 ∨ r = 2) := by
  obtain ⟨s, hs⟩ := hs
  by_cases h30 : s ≤ 30
  · exact ⟨0, check_set N hN a n x hx body hc ⟨s, hs, h30⟩ hm, .inl rfl⟩
  · obtain ⟨h1, h2, h3, h4⟩ := (check_iff N hN a).1 hc
    have hp := pars_set (x := x) (y := { x with body := body }) rfl a n hx
    have hh := heads_set (x := x) (y := { x with body := body }) rfl rfl a 0 n hx h3
    refine ⟨2, ?_, .inr rfl⟩
    have hna : n < a.length := by
      rcases Nat.lt_or_ge n a.length with h | h
      · exact h
      · rw [List.getElem?_eq_none h] at hx; cases hx
    generalize hg : a.set n { x with body := body } = g at hp hh ⊢
    have hgl : g.length = a.length := by rw [← hg]; simp
    unfold source_Check
    rw [show (decide (((g.length : Int) : Int) = 0) || decide ((4 : Int) < (g.length : Int))) = false by rw [dF (by omega), dF (by omega)]; rfl]
    simp only [cond_false]
    have hk : ∀ (k : Unit → Option Int) (l : List Fun) (i : Int), heads i l → eachI source_Check_b7 k i l () = k () := by
      intro k l
      induction l with
      | nil => intro i _; rfl
      | cons y r ih =>
        intro i hi
        rw [eachI_cons]
        have := ih (i + 1) hi.2
        generalize eachI source_Check_b7 k (i + 1) r = nx at this ⊢
        unfold source_Check_b7
        have h0 : _ = false := hi.1
        rw [h0]
        simpa using this
    rw [hk _ g 0 hh]
    show each (source_Check_b5 (N + 1) g) source_Check_k6 g () = some 2
    have key : ∀ (l : List Fun) (m : Nat), l[m]? = some { x with body := body } → (∀ j, j < m → ∀ y, l[j]? = some y → okF N g y) → each (source_Check_b5 (N + 1) g) source_Check_k6 l () = some 2 := by
      intro l
      induction l with
      | nil => intro m h _; simp at h
      | cons y r ih =>
        intro m hm' hj
        rw [each_cons]
        cases m with
        | zero =>
          simp only [List.getElem?_cons_zero, Option.some.injEq] at hm'
          subst hm'
          generalize each (source_Check_b5 (N + 1) g) source_Check_k6 r = nx
          unfold source_Check_b5
          simp only
          rw [count_eq N hN, hs]
          simp only
          rw [if_neg h30]
          rfl
        | succ m =>
          have hi := ih m (by simpa using hm') (fun j hjm z hz => hj (j + 1) (by omega) z (by simpa using hz))
          generalize each (source_Check_b5 (N + 1) g) source_Check_k6 r = nx at hi ⊢
          obtain ⟨⟨t, g1, g2⟩, g3⟩ := hj 0 (by omega) y rfl
          unfold source_Check_b5
          rw [count_ok N hN _ g1 g2, (stmts_iff N g y.locals y.body).2 g3]
          simp only [bnd, Bool.not_true, cond_false, ne_eq, not_true_eq_false, decide_false]
          exact hi
    refine key g n (by rw [← hg, List.getElem?_set_self hna]) (fun j hj y hy => ?_)
    rw [← hg, List.getElem?_set_ne (by omega)] at hy
    exact okF_pars hp.symm (h4 y (List.mem_of_getElem? hy))
theorem at_s (k : Int) (n : Nat) (h : 0 < n) (h2 : n ≤ 9223372036854775807) : ∃ i : Nat, i < n ∧ wandererlaw_at k (n : Int) = some (i : Int) := by
  unfold wandererlaw_at
  rw [grd_t (by omega)]
  have h3 := Int.tmod_lt_of_pos k (show (0 : Int) < n by omega)
  have h4 : -(n : Int) < Int.tmod k n := by
    rcases Int.le_total 0 k with h | h
    · have := Int.tmod_nonneg (n : Int) h; omega
    · have h5 := Int.tmod_lt_of_pos (-k) (show (0 : Int) < n by omega)
      rw [Int.neg_tmod] at h5
      omega
  by_cases h5 : Int.tmod k n < 0
  · refine ⟨(Int.tmod k n + n).toNat, by omega, ?_⟩
    rw [dT h5, cond_true, grd_t (I64.mk (by omega) (by omega))]
    congr 1; omega
  · refine ⟨(Int.tmod k n).toNat, by omega, ?_⟩
    rw [dF h5, cond_false]
    congr 1; omega
theorem ins_s {α : Type} {l m : List α} {a : Nat} (h : a ≤ l.length) : ins1 l (a : Int) m = some (l.take a ++ m ++ l.drop a) := by
  unfold ins1
  rw [if_pos ⟨by omega, by omega⟩]
  simp
theorem del_s1 {α : Type} {l : List α} {a : Nat} (h : a < l.length) : del1 l (a : Int) ((a : Int) + 1) = some (l.take a ++ l.drop (a + 1)) := by
  have := del_s (l := l) (a := a) (b := a + 1) (by omega) (by omega)
  exact this
theorem sumw_bound (N : Nat) (hN : 3 < N) : ∀ (l : List GStmt) (s : Int), sumw N l = some s → (l.length : Int) ≤ s
  | [], s, h => by cases h; simp
  | x :: r, s, h => by
    obtain ⟨w, h1, h⟩ := o_bind h
    obtain ⟨t, h2, h⟩ := o_bind h
    have := cw_pos N hN x w h1
    have := sumw_bound N hN r t h2
    cases h
    simp only [List.length_cons]
    omega
theorem sourceParts (a : List Fun) (b c : Int) : ∃ N, wandererlaw_SourceParts N a b c = some true := by
  obtain ⟨B, hB⟩ := szB a
  have hT := typed_ok (B + 1)
  refine ⟨B + 200 + 1, ?_⟩
  rw [show B + 1 + 200 = B + 200 + 1 by omega] at hT
  unfold wandererlaw_SourceParts
  rw [hT]
  simp only [bnd, Bool.not_true, cond_false]
  obtain ⟨r, h1, _⟩ := CheckEq a (B + 200 + 1) (fun x hx => by have := hB x hx; omega) (by omega)
  rw [h1]
  simp only [bnd]
  unfold wandererlaw_SourceParts_j2
  by_cases hr : r = 0
  · subst hr
    have hN : 3 < B + 200 := by omega
    obtain ⟨g1, g2, g3, g4⟩ := (check_iff (B + 200) hN a).1 h1
    simp only [ne_eq, not_true_eq_false, decide_false, cond_false]
    obtain ⟨i, hi, he⟩ := at_s b a.length (by omega) (by omega)
    rw [he]
    simp only [bnd, idx_lt hi]
    have hx : a[i]? = some a[i] := List.getElem?_eq_getElem hi
    generalize a[i] = x at hx ⊢
    by_cases hb : x.body.length = 0
    · rw [dT (show (x.body.length : Int) = 0 by omega)]; rfl
    · rw [dF (show ¬ (x.body.length : Int) = 0 by omega)]
      have hxm : x ∈ a := List.mem_of_getElem? hx
      obtain ⟨⟨s, hs, hs30⟩, hst⟩ := g4 x hxm
      have hbl := sumw_bound (B + 200) hN x.body s hs
      obtain ⟨k, hk, hke⟩ := at_s c x.body.length (by omega) (by omega)
      rw [hke]
      simp only [cond_false, bnd]
      rw [clone_s (by omega) (by omega), clone_s (by omega) (by omega)]
      simp only [bnd]
      rw [gI, del_s1 hk]
      have hia : idx a (i : Int) = some x := by rw [idx_nat, hx]
      simp only [bnd, hia, Int.toNat_natCast]
      -- the sums
      have hsplit : x.body = x.body.take k ++ (x.body[k] :: x.body.drop (k + 1)) := by
        rw [← List.drop_eq_getElem_cons hk, List.take_append_drop]
      have hsum := hs
      rw [hsplit, sumw_app] at hsum
      obtain ⟨s1, e1, hsum⟩ := o_bind hsum
      obtain ⟨s2, e2, hsum⟩ := o_bind hsum
      cases hsum
      have e2' := e2
      obtain ⟨w, f1, e2⟩ := o_bind e2
      obtain ⟨s3, f2, e2⟩ := o_bind e2
      cases e2
      have n1 := sumw_nn _ hN _ _ e1
      have n2 := sumw_nn _ hN _ _ f2
      have n3 := cw_pos _ hN _ _ f1
      rw [check_set (B + 200) hN a i x hx (x.body.take k ++ x.body.drop (k + 1)) h1 ⟨s1 + s3, by rw [sumw_app, e1, f2]; rfl, by omega⟩ (fun y hy => by
        rcases List.mem_append.1 hy with hy | hy
        · exact List.mem_of_mem_take hy
        · exact List.mem_of_mem_drop hy)]
      have hik : idx x.body (k : Int) = some x.body[k] := idx_lt hk
      simp only [bnd, ne_eq, not_true_eq_false, decide_false, cond_false, hik]
      rw [grd_t (Room.mk (by simp; omega) (by simp; omega)), ins_s (by omega)]
      simp only [bnd]
      have his : idx (a.set i { x with body := x.body.take k ++ x.body.drop (k + 1) }) (i : Int) = some { x with body := x.body.take k ++ x.body.drop (k + 1) } := by
        rw [idx_nat, List.getElem?_set_self hi]
      rw [his]
      simp only [bnd, List.set_set]
      unfold wandererlaw_SourceParts_j3
      obtain ⟨r, q1, q2⟩ := check_set2 (B + 200) hN a i x hx (x.body.take k ++ [x.body[k]] ++ x.body.drop k) h1 ⟨s1 + (w + (w + s3)), by
        rw [List.append_assoc, List.singleton_append, sumw_app, e1, List.drop_eq_getElem_cons hk]
        simp only [sumw, f1, f2, bnd]⟩ (fun y hy => by
        rcases List.mem_append.1 hy with hy | hy
        · rcases List.mem_append.1 hy with hy | hy
          · exact List.mem_of_mem_take hy
          · simp only [List.mem_singleton] at hy; subst hy; exact List.getElem_mem hk
        · exact List.mem_of_mem_drop hy)
      rw [q1]
      simp only [bnd]
      rcases q2 with rfl | rfl <;> rfl
  · rw [dT hr]
    simp only [cond_true, hT, bnd]
end Go.Proofs.Ytkjajililnbimaa
