/-
  Plain laws.
-/
import Derived.Test.YtckocfgmnlhcmaaGreatDoorLiftE
set_option linter.unusedSimpArgs false
set_option linter.unusedVariables false
namespace Go.LX
open Go.Proofs
/-! Programs as words. -/
abbrev opsL : List Str := [[], [43], [45], [42], [60], [61]]
abbrev kindsL : List Str := [[], [115, 101, 116], [112, 117, 116], [115, 97, 121], [112, 97, 117, 115, 101], [103, 111], [105, 102], [119, 104, 105, 108, 101], [114, 101, 116, 117, 114, 110]]
def kindW (k : Int) : Str := (kindsL[k.toNat]?).getD []
def wordT (t : Tok) : Str :=
  if t.kind = 2 then [118] ++ Lib.itoa t.n else if t.kind = 3 then (opsL[t.n.toNat]?).getD [] else if t.kind = 4 then [46] ++ Lib.itoa t.n
  else if t.kind = 5 then [110, 101, 119] ++ Lib.itoa t.n else if t.kind = 6 then [102] ++ Lib.itoa t.n else Lib.itoa t.n
def exprW (e : List Tok) : List Str := e.map wordT
def stW (blk : List GStmt → List Str) (s : GStmt) : List Str :=
  [kindW s.kind] ++ (if s.kind = 1 ∨ s.kind = 2 then [Lib.itoa s.n] else []) ++ exprW s.e ++ exprW s.f ++ (if s.kind = 6 ∨ s.kind = 7 then blk s.a else []) ++ (if s.kind = 6 then blk s.b else [])
def blkW : Nat → List GStmt → List Str
  | 0, _ => [[123], [125]]
  | k + 1, l => [123] :: (l.flatMap (stW (blkW k)) ++ [[125]])
def funW (k : Nat) (x : Fun) : List Str := [102, 117, 110] :: Lib.itoa x.params :: Lib.itoa x.locals :: blkW k x.body
def progW (k : Nat) (f : List Fun) : List Str := f.flatMap (funW k)
/-! Reading them. -/
def numP (b s : Str) : Option Int := if s.take b.length = b then numOf (s.drop b.length) else none
def callN (ps : List Int) (n : Int) : Int := if 0 ≤ n ∧ n < ps.length then (ps[n.toNat]?).getD 0 else 0
def asksT (ps : List Int) (t : Tok) : Int := if t.kind = 3 then 2 else if t.kind = 4 then 1 else if t.kind = 6 then callN ps t.n else 0
def tokP (ps : List Int) (s : Str) : Option (Tok × Int) :=
  if s = [43] then some (⟨3, 1⟩, 2) else if s = [45] then some (⟨3, 2⟩, 2) else if s = [42] then some (⟨3, 3⟩, 2) else if s = [60] then some (⟨3, 4⟩, 2) else if s = [61] then some (⟨3, 5⟩, 2)
  else if s.take 1 = [118] then (numP [118] s).bind fun n => some (⟨2, n⟩, 0)
  else if s.take 1 = [46] then (numP [46] s).bind fun n => some (⟨4, n⟩, 1)
  else if s.take 3 = [110, 101, 119] then (numP [110, 101, 119] s).bind fun n => some (⟨5, n⟩, 0)
  else if s.take 1 = [102] then (numP [102] s).bind fun n => some (⟨6, n⟩, callN ps n)
  else (numP [] s).bind fun n => some (⟨1, n⟩, 0)
def exprP (ps : List Int) : List Str → List Tok → Int → Option (List Tok × List Str)
  | [], acc, want => if 0 < want then none else some (acc, [])
  | s :: r, acc, want => if 0 < want then (tokP ps s).bind fun q => if 24 < acc.length + 1 then none else exprP ps r (acc ++ [q.1]) (want + (q.2 - 1)) else some (acc, s :: r)
def nextP : List Str → Option (Str × List Str)
  | [] => none
  | s :: r => some (s, r)
def numR (b s : Str) (w : List Str) : Option (Int × List Str) := (numP b s).bind fun n => some (n, w)
def stP (ps : List Int) (blk : List Str → Option (List GStmt × List Str)) (w : List Str) : Option (Option GStmt × List Str) :=
  (nextP w).bind fun q =>
  if q.1 = [125] then some (none, q.2)
  else if q.1 = [115, 101, 116] then (nextP q.2).bind fun u => (numR [] u.1 u.2).bind fun n => (exprP ps n.2 [] 1).bind fun e => some (some ⟨1, n.1, e.1, [], [], []⟩, e.2)
  else if q.1 = [112, 117, 116] then (nextP q.2).bind fun u => (numR [] u.1 u.2).bind fun n => (exprP ps n.2 [] 1).bind fun e => (exprP ps e.2 [] 1).bind fun f => some (some ⟨2, n.1, e.1, f.1, [], []⟩, f.2)
  else if q.1 = [115, 97, 121] then (exprP ps q.2 [] 1).bind fun e => some (some ⟨3, 0, e.1, [], [], []⟩, e.2)
  else if q.1 = [112, 97, 117, 115, 101] then some (some ⟨4, 0, [], [], [], []⟩, q.2)
  else if q.1 = [103, 111] then (exprP ps q.2 [] 1).bind fun e => some (some ⟨5, 0, e.1, [], [], []⟩, e.2)
  else if q.1 = [105, 102] then (exprP ps q.2 [] 1).bind fun e => (blk e.2).bind fun a => (blk a.2).bind fun b => some (some ⟨6, 0, e.1, [], a.1, b.1⟩, b.2)
  else if q.1 = [119, 104, 105, 108, 101] then (exprP ps q.2 [] 1).bind fun e => (blk e.2).bind fun a => some (some ⟨7, 0, e.1, [], a.1, []⟩, a.2)
  else if q.1 = [114, 101, 116, 117, 114, 110] then (exprP ps q.2 [] 1).bind fun e => some (some ⟨8, 0, e.1, [], [], []⟩, e.2)
  else none
def loopP (st : List Str → Option (Option GStmt × List Str)) : Nat → List Str → List GStmt → Option (List GStmt × List Str)
  | 0, _, _ => none
  | n + 1, w, acc => (st w).bind fun q => match q.1 with | none => some (acc, q.2) | some s => loopP st n q.2 (acc ++ [s])
def blkP (ps : List Int) (n : Nat) : Nat → List Str → Option (List GStmt × List Str)
  | 0, _ => none
  | k + 1, w => (nextP w).bind fun q => if q.1 = [123] then loopP (stP ps (blkP ps n k)) n q.2 [] else none
def funP (ps : List Int) (n : Nat) (w : List Str) : Option (Fun × List Str) :=
  (nextP w).bind fun q => if q.1 = [102, 117, 110] then (nextP q.2).bind fun u => (numR [] u.1 u.2).bind fun a => (nextP a.2).bind fun v => (numR [] v.1 v.2).bind fun b => (blkP ps n 5 b.2).bind fun l => some (⟨a.1, b.1, l.1⟩, l.2) else none
def progP (ps : List Int) (n : Nat) : Nat → List Str → List Fun → Option (List Fun)
  | 0, _, _ => none
  | m + 1, w, acc => if w = [] then some acc else (funP ps n w).bind fun q => progP ps n m q.2 (acc ++ [q.1])
/-! What is read was written so. -/
theorem numP_some {b s : Str} {m : Int} (h : numP b s = some m) : s = b ++ Lib.itoa m ∧ I64 m := by
  unfold numP at h
  split at h
  · rename_i h1
    obtain ⟨h2, h3⟩ := numOf_some h
    refine ⟨?_, h3⟩
    rw [← h2]
    conv => lhs; rw [← List.take_append_drop b.length s, h1]
  · cases h
theorem tokP_some {ps : List Int} {s : Str} {t : Tok} {n : Int} (h : tokP ps s = some (t, n)) : s = wordT t ∧ n = asksT ps t := by
  unfold tokP at h
  split at h
  · cases h; subst_vars; exact ⟨by rfl, rfl⟩
  split at h
  · cases h; subst_vars; exact ⟨by rfl, rfl⟩
  split at h
  · cases h; subst_vars; exact ⟨by rfl, rfl⟩
  split at h
  · cases h; subst_vars; exact ⟨by rfl, rfl⟩
  split at h
  · cases h; subst_vars; exact ⟨by rfl, rfl⟩
  split at h
  · obtain ⟨m, h1, h2⟩ := Option.bind_eq_some_iff.1 h
    cases h2; exact ⟨by rw [(numP_some h1).1]; simp [wordT], rfl⟩
  split at h
  · obtain ⟨m, h1, h2⟩ := Option.bind_eq_some_iff.1 h
    cases h2; exact ⟨by rw [(numP_some h1).1]; simp [wordT], rfl⟩
  split at h
  · obtain ⟨m, h1, h2⟩ := Option.bind_eq_some_iff.1 h
    cases h2; exact ⟨by rw [(numP_some h1).1]; simp [wordT], rfl⟩
  split at h
  · obtain ⟨m, h1, h2⟩ := Option.bind_eq_some_iff.1 h
    cases h2; exact ⟨by rw [(numP_some h1).1]; simp [wordT], rfl⟩
  · obtain ⟨m, h1, h2⟩ := Option.bind_eq_some_iff.1 h
    cases h2; exact ⟨by rw [(numP_some h1).1]; simp [wordT], rfl⟩
theorem exprP_some {ps : List Int} : ∀ (w : List Str) (acc : List Tok) (want : Int) {e : List Tok} {r : List Str}, exprP ps w acc want = some (e, r) → ∃ e', e = acc ++ e' ∧ w = exprW e' ++ r
  | [], acc, want, e, r, h => by
    unfold exprP at h
    split at h
    · cases h
    · cases h; exact ⟨[], by simp, rfl⟩
  | s :: w, acc, want, e, r, h => by
    unfold exprP at h
    split at h
    · obtain ⟨⟨t, n⟩, h1, h2⟩ := Option.bind_eq_some_iff.1 h
      simp only at h2
      split at h2
      · cases h2
      · obtain ⟨e', h3, h4⟩ := exprP_some w _ _ h2
        refine ⟨t :: e', by rw [h3]; simp, ?_⟩
        rw [h4, (tokP_some h1).1]; rfl
    · cases h; exact ⟨[], by simp, rfl⟩
theorem expr_some {ps : List Int} {w : List Str} {q : List Tok × List Str} (h : exprP ps w [] 1 = some q) : w = exprW q.1 ++ q.2 := by
  obtain ⟨e, r⟩ := q
  obtain ⟨e', h1, h2⟩ := exprP_some w [] 1 h
  simp only [List.nil_append] at h1
  subst h1; exact h2
theorem nextP_some {w : List Str} {q : Str × List Str} (h : nextP w = some q) : w = q.1 :: q.2 := by
  cases w with
  | nil => cases h
  | cons s r => cases h; rfl
theorem numR_some {s : Str} {w : List Str} {q : Int × List Str} (h : numR [] s w = some q) : s = Lib.itoa q.1 ∧ q.2 = w := by
  obtain ⟨m, h1, h2⟩ := Option.bind_eq_some_iff.1 h
  cases h2; exact ⟨(numP_some h1).1, rfl⟩
theorem stP_some {ps : List Int} {blk : List Str → Option (List GStmt × List Str)} {bw : List GStmt → List Str} (hb : ∀ w q, blk w = some q → w = bw q.1 ++ q.2) {w : List Str} {o : Option GStmt} {r : List Str} (h : stP ps blk w = some (o, r)) :
    (o = none ∧ w = [125] :: r) ∨ ∃ s, o = some s ∧ w = stW bw s ++ r := by
  unfold stP at h
  replace h := Option.bind_eq_some_iff.1 h
  obtain ⟨⟨s, w1⟩, h1, h⟩ := h
  have e1 := nextP_some h1
  simp only at h e1
  subst e1
  split at h
  · rename_i e; subst e; cases h; exact .inl ⟨rfl, rfl⟩
  split at h
  · rename_i e; subst e
    replace h := Option.bind_eq_some_iff.1 h
    obtain ⟨⟨u, w2⟩, h2, h⟩ := h
    replace h := Option.bind_eq_some_iff.1 h
    obtain ⟨⟨n, w3⟩, h3, h⟩ := h
    replace h := Option.bind_eq_some_iff.1 h
    obtain ⟨⟨e, w4⟩, h4, h⟩ := h
    have e2 := nextP_some h2; have e3 := numR_some h3; have e4 := expr_some h4
    cases h
    obtain ⟨e3, e3'⟩ := e3
    simp only at e2 e3 e3' e4
    subst e2 e3 e3' e4
    exact .inr ⟨_, rfl, by simp [stW, kindW, exprW]⟩
  split at h
  · rename_i e; subst e
    replace h := Option.bind_eq_some_iff.1 h
    obtain ⟨⟨u, w2⟩, h2, h⟩ := h
    replace h := Option.bind_eq_some_iff.1 h
    obtain ⟨⟨n, w3⟩, h3, h⟩ := h
    replace h := Option.bind_eq_some_iff.1 h
    obtain ⟨⟨e, w4⟩, h4, h⟩ := h
    replace h := Option.bind_eq_some_iff.1 h
    obtain ⟨⟨f, w5⟩, h5, h⟩ := h
    have e2 := nextP_some h2; have e3 := numR_some h3; have e4 := expr_some h4; have e5 := expr_some h5
    cases h
    obtain ⟨e3, e3'⟩ := e3
    simp only at e2 e3 e3' e4 e5
    subst e2 e3 e3' e4 e5
    exact .inr ⟨_, rfl, by simp [stW, kindW, exprW]⟩
  split at h
  · rename_i e; subst e
    replace h := Option.bind_eq_some_iff.1 h
    obtain ⟨⟨e, w4⟩, h4, h⟩ := h
    have e4 := expr_some h4
    cases h
    simp only at e4
    subst e4
    exact .inr ⟨_, rfl, by simp [stW, kindW, exprW]⟩
  split at h
  · rename_i e; subst e
    cases h
    exact .inr ⟨_, rfl, by simp [stW, kindW, exprW]⟩
  split at h
  · rename_i e; subst e
    replace h := Option.bind_eq_some_iff.1 h
    obtain ⟨⟨e, w4⟩, h4, h⟩ := h
    have e4 := expr_some h4
    cases h
    simp only at e4
    subst e4
    exact .inr ⟨_, rfl, by simp [stW, kindW, exprW]⟩
  split at h
  · rename_i e; subst e
    replace h := Option.bind_eq_some_iff.1 h
    obtain ⟨⟨e, w4⟩, h4, h⟩ := h
    replace h := Option.bind_eq_some_iff.1 h
    obtain ⟨⟨a, w5⟩, h5, h⟩ := h
    replace h := Option.bind_eq_some_iff.1 h
    obtain ⟨⟨b, w6⟩, h6, h⟩ := h
    have e4 := expr_some h4; have e5 := hb _ _ h5; have e6 := hb _ _ h6
    cases h
    simp only at e4 e5 e6
    subst e4 e5 e6
    exact .inr ⟨_, rfl, by simp [stW, kindW, exprW]⟩
  split at h
  · rename_i e; subst e
    replace h := Option.bind_eq_some_iff.1 h
    obtain ⟨⟨e, w4⟩, h4, h⟩ := h
    replace h := Option.bind_eq_some_iff.1 h
    obtain ⟨⟨a, w5⟩, h5, h⟩ := h
    have e4 := expr_some h4; have e5 := hb _ _ h5
    cases h
    simp only at e4 e5
    subst e4 e5
    exact .inr ⟨_, rfl, by simp [stW, kindW, exprW]⟩
  split at h
  · rename_i e; subst e
    replace h := Option.bind_eq_some_iff.1 h
    obtain ⟨⟨e, w4⟩, h4, h⟩ := h
    have e4 := expr_some h4
    cases h
    simp only at e4
    subst e4
    exact .inr ⟨_, rfl, by simp [stW, kindW, exprW]⟩
  · cases h
theorem loopP_some {st : List Str → Option (Option GStmt × List Str)} {sw : GStmt → List Str} (hs : ∀ w o r, st w = some (o, r) → (o = none ∧ w = [125] :: r) ∨ ∃ s, o = some s ∧ w = sw s ++ r) : ∀ (n : Nat) (w : List Str) (acc : List GStmt) {q : List GStmt × List Str}, loopP st n w acc = some q → ∃ l, q.1 = acc ++ l ∧ w = l.flatMap sw ++ [125] :: q.2
  | 0, w, acc, q, h => by cases h
  | n + 1, w, acc, q, h => by
    unfold loopP at h
    obtain ⟨⟨o, r⟩, h1, h2⟩ := Option.bind_eq_some_iff.1 h
    rcases hs _ _ _ h1 with ⟨rfl, h3⟩ | ⟨s, rfl, h3⟩
    · cases h2
      exact ⟨[], by simp, h3⟩
    · obtain ⟨l, h4, h5⟩ := loopP_some hs n r _ h2
      refine ⟨s :: l, by rw [h4]; simp, ?_⟩
      rw [h3, h5]; simp
theorem blkP_some {ps : List Int} {n : Nat} : ∀ (k : Nat) (w : List Str) (q : List GStmt × List Str), blkP ps n k w = some q → w = blkW k q.1 ++ q.2
  | 0, w, q, h => by cases h
  | k + 1, w, q, h => by
    unfold blkP at h
    obtain ⟨⟨s, r⟩, h1, h2⟩ := Option.bind_eq_some_iff.1 h
    have e1 := nextP_some h1
    simp only at h2 e1
    subst e1
    split at h2
    · rename_i e; subst e
      obtain ⟨l, h3, h4⟩ := loopP_some (sw := stW (blkW k)) (fun w o r h => stP_some (blkP_some k) h) n r [] h2
      simp only [List.nil_append] at h3
      rw [h4, blkW, h3]; simp
    · cases h2
theorem funP_some {ps : List Int} {n : Nat} {w : List Str} {q : Fun × List Str} (h : funP ps n w = some q) : w = funW 5 q.1 ++ q.2 := by
  unfold funP at h
  replace h := Option.bind_eq_some_iff.1 h
  obtain ⟨⟨s, w1⟩, h1, h⟩ := h
  have e1 := nextP_some h1
  simp only at h e1
  subst e1
  split at h
  · rename_i e; subst e
    replace h := Option.bind_eq_some_iff.1 h
    obtain ⟨⟨u, w2⟩, h2, h⟩ := h
    replace h := Option.bind_eq_some_iff.1 h
    obtain ⟨⟨a, w3⟩, h3, h⟩ := h
    replace h := Option.bind_eq_some_iff.1 h
    obtain ⟨⟨v, w4⟩, h4, h⟩ := h
    replace h := Option.bind_eq_some_iff.1 h
    obtain ⟨⟨b, w5⟩, h5, h⟩ := h
    replace h := Option.bind_eq_some_iff.1 h
    obtain ⟨⟨l, w6⟩, h6, h⟩ := h
    have e2 := nextP_some h2; have e3 := numR_some h3; have e4 := nextP_some h4; have e5 := numR_some h5; have e6 := blkP_some _ _ _ h6
    cases h
    obtain ⟨e3, e3'⟩ := e3
    obtain ⟨e5, e5'⟩ := e5
    simp only at e2 e3 e3' e4 e5 e5' e6
    subst e2 e3 e3' e4 e5 e5' e6
    simp [funW]
  · cases h
theorem progP_some {ps : List Int} {n : Nat} : ∀ (m : Nat) (w : List Str) (acc : List Fun) {f : List Fun}, progP ps n m w acc = some f → ∃ f', f = acc ++ f' ∧ w = progW 5 f'
  | 0, w, acc, f, h => by cases h
  | m + 1, w, acc, f, h => by
    unfold progP at h
    split at h
    · rename_i e; cases h; exact ⟨[], by simp, by rw [e]; rfl⟩
    · obtain ⟨⟨x, r⟩, h1, h2⟩ := Option.bind_eq_some_iff.1 h
      obtain ⟨f', h3, h4⟩ := progP_some m r _ h2
      refine ⟨x :: f', by rw [h3]; simp, ?_⟩
      have := funP_some h1
      simp only at this h4
      rw [this, h4]; simp [progW]
end Go.LX

namespace Go.LX
open Go.Proofs
def TokOk (ps : List Int) (c : Int) (t : Tok) : Prop :=
  (t.kind = 1 ∧ -1000000000 ≤ t.n ∧ t.n ≤ 1000000000) ∨ (t.kind = 2 ∧ 0 ≤ t.n ∧ t.n < c) ∨ (t.kind = 3 ∧ 1 ≤ t.n ∧ t.n ≤ 5) ∨ (t.kind = 4 ∧ 0 ≤ t.n ∧ t.n < 4) ∨ (t.kind = 5 ∧ 1 ≤ t.n ∧ t.n ≤ 4) ∨ (t.kind = 6 ∧ 0 ≤ t.n ∧ t.n < ps.length)
def wants (ps : List Int) : Int → List Tok → Prop
  | w, [] => w = 0
  | w, t :: r => 0 < w ∧ wants ps (w + (asksT ps t - 1)) r
def ExprOk (ps : List Int) (c : Int) (e : List Tok) : Prop := e.length ≤ 24 ∧ (∀ t ∈ e, TokOk ps c t) ∧ wants ps 1 e
def Shape (ps : List Int) (c : Int) (s : GStmt) : Prop :=
  (s.kind = 1 ∧ (0 ≤ s.n ∧ s.n < c) ∧ ExprOk ps c s.e ∧ s.f = [] ∧ s.a = [] ∧ s.b = []) ∨
  (s.kind = 2 ∧ (0 ≤ s.n ∧ s.n < 4) ∧ ExprOk ps c s.e ∧ ExprOk ps c s.f ∧ s.a = [] ∧ s.b = []) ∨
  (s.kind = 3 ∧ s.n = 0 ∧ ExprOk ps c s.e ∧ s.f = [] ∧ s.a = [] ∧ s.b = []) ∨
  (s.kind = 4 ∧ s.n = 0 ∧ s.e = [] ∧ s.f = [] ∧ s.a = [] ∧ s.b = []) ∨
  (s.kind = 5 ∧ s.n = 0 ∧ ExprOk ps c s.e ∧ s.f = [] ∧ s.a = [] ∧ s.b = []) ∨
  (s.kind = 6 ∧ s.n = 0 ∧ ExprOk ps c s.e ∧ s.f = []) ∨
  (s.kind = 7 ∧ s.n = 0 ∧ ExprOk ps c s.e ∧ s.f = [] ∧ s.b = []) ∨
  (s.kind = 8 ∧ s.n = 0 ∧ ExprOk ps c s.e ∧ s.f = [] ∧ s.a = [] ∧ s.b = [])
def BlkOk (ps : List Int) (c : Int) : Nat → List GStmt → Prop
  | 0, l => l = []
  | k + 1, l => l.length ≤ 30 ∧ ∀ s ∈ l, Shape ps c s ∧ BlkOk ps c k s.a ∧ BlkOk ps c k s.b
theorem BlkOk.nil {ps : List Int} {c : Int} : ∀ k, BlkOk ps c k []
  | 0 => rfl
  | k + 1 => ⟨by simp, by simp⟩
theorem BlkOk.up {ps : List Int} {c : Int} : ∀ {k : Nat} {l : List GStmt}, BlkOk ps c k l → BlkOk ps c (k + 1) l
  | 0, l, h => by
    have : l = [] := h
    subst this; exact BlkOk.nil _
  | k + 1, l, h => ⟨h.1, fun s hs => ⟨(h.2 s hs).1, (h.2 s hs).2.1.up, (h.2 s hs).2.2.up⟩⟩
theorem flatMap_cong {α β : Type} {f g : α → List β} : ∀ {l : List α}, (∀ x ∈ l, f x = g x) → l.flatMap f = l.flatMap g
  | [], _ => rfl
  | x :: l, h => by rw [List.flatMap_cons, List.flatMap_cons, h x (by simp), flatMap_cong (fun y hy => h y (List.mem_cons_of_mem _ hy))]
theorem blkW_up {ps : List Int} {c : Int} : ∀ {k : Nat} {l : List GStmt}, BlkOk ps c k l → blkW (k + 1) l = blkW k l
  | 0, l, h => by
    have : l = [] := h
    subst this; rfl
  | k + 1, l, h => by
    have : ∀ s ∈ l, stW (blkW (k + 1)) s = stW (blkW k) s := fun s hs => by
      unfold stW
      rw [blkW_up (h.2 s hs).2.1, blkW_up (h.2 s hs).2.2]
    rw [blkW, blkW, flatMap_cong this]
structure FunOk (ps : List Int) (x : Fun) : Prop where
  params : 0 ≤ x.params ∧ x.params ≤ 3
  locals : x.params ≤ x.locals ∧ x.locals ≤ 6
  body : BlkOk ps x.locals 4 x.body
structure ProgOk (f : List Fun) : Prop where
  many : 1 ≤ f.length ∧ f.length ≤ 4
  fn : ∀ x ∈ f, FunOk (f.map (·.params)) x
theorem small_I64 {n : Int} (h1 : -1000000000 ≤ n) (h2 : n ≤ 1000000000) : I64 n := I64.mk (by omega) (by omega)
theorem TokOk.n {ps : List Int} {c : Int} {t : Tok} (h : TokOk ps c t) (hc : c ≤ 6) (hp : ps.length ≤ 4) : I64 t.n := by
  unfold TokOk at h
  exact small_I64 (by omega) (by omega)
/-! What was written is read. -/
theorem itoa_head (n : Int) : ∃ c r, Lib.itoa n = c :: r ∧ (c = 45 ∨ (48 ≤ c.toNat ∧ c.toNat ≤ 57)) := by
  unfold Lib.itoa
  split
  · exact ⟨_, _, rfl, .inl rfl⟩
  · obtain ⟨c, r, h, h1, h2⟩ := dec_head n.toNat
    exact ⟨c, r, h, .inr ⟨h1, h2⟩⟩
theorem itoa_take (n : Int) (x : UInt8) (k : Nat) (l : List UInt8) (hx : x ≠ 45) (hx2 : ¬ (48 ≤ x.toNat ∧ x.toNat ≤ 57)) : (Lib.itoa n).take (k + 1) ≠ x :: l := by
  obtain ⟨c, r, h, h1⟩ := itoa_head n
  rw [h, List.take_succ_cons]
  intro e
  cases e
  rcases h1 with h1 | h1
  · exact hx h1
  · exact hx2 h1
theorem itoa_neq (n : Int) (x : UInt8) (l : List UInt8) (hx : x ≠ 45) (hx2 : ¬ (48 ≤ x.toNat ∧ x.toNat ≤ 57)) : Lib.itoa n ≠ x :: l := by
  obtain ⟨c, r, h, h1⟩ := itoa_head n
  rw [h]
  intro e
  cases e
  rcases h1 with h1 | h1
  · exact hx h1
  · exact hx2 h1
theorem itoa_dash {n : Int} (h : I64 n) : Lib.itoa n ≠ [45] := fun e => by
  have := numOf_itoa h
  rw [e] at this
  have e2 : numOf [45] = none := by decide
  rw [e2] at this
  cases this
theorem numP_app {b : Str} {n : Int} (h : I64 n) : numP b (b ++ Lib.itoa n) = some n := by
  unfold numP
  rw [if_pos (by simp), List.drop_left, numOf_itoa h]
theorem numP_nil {n : Int} (h : I64 n) : numP [] (Lib.itoa n) = some n := numP_app (b := []) h
theorem numR_ok {n : Int} {w : List Str} (h : I64 n) : numR [] (Lib.itoa n) w = some (n, w) := by
  unfold numR
  rw [numP_nil h]; rfl
theorem tokP_word {ps : List Int} {c : Int} {t : Tok} (h : TokOk ps c t) (hc : c ≤ 6) (hp : ps.length ≤ 4) : tokP ps (wordT t) = some (t, asksT ps t) := by
  have hn := h.n hc hp
  obtain ⟨k, n⟩ := t
  unfold TokOk at h
  simp only at h hn
  rcases h with ⟨rfl, h⟩ | ⟨rfl, h⟩ | ⟨rfl, h⟩ | ⟨rfl, h⟩ | ⟨rfl, h⟩ | ⟨rfl, h⟩
  · have e : wordT ⟨1, n⟩ = Lib.itoa n := by simp [wordT]
    rw [e]
    unfold tokP
    rw [if_neg (itoa_neq n _ _ (by decide) (by decide)), if_neg (itoa_dash hn), if_neg (itoa_neq n _ _ (by decide) (by decide)), if_neg (itoa_neq n _ _ (by decide) (by decide)), if_neg (itoa_neq n _ _ (by decide) (by decide)), if_neg (itoa_take n _ 0 _ (by decide) (by decide)), if_neg (itoa_take n _ 0 _ (by decide) (by decide)), if_neg (itoa_take n _ 2 _ (by decide) (by decide)), if_neg (itoa_take n _ 0 _ (by decide) (by decide)), numP_nil hn]
    rfl
  · have e : wordT ⟨2, n⟩ = [118] ++ Lib.itoa n := by simp [wordT]
    rw [e]
    unfold tokP
    rw [if_neg (by simp), if_neg (by simp), if_neg (by simp), if_neg (by simp), if_neg (by simp), if_pos (by simp), numP_app hn]
    rfl
  · have : n = 1 ∨ n = 2 ∨ n = 3 ∨ n = 4 ∨ n = 5 := by omega
    rcases this with rfl | rfl | rfl | rfl | rfl <;> rfl
  · have e : wordT ⟨4, n⟩ = [46] ++ Lib.itoa n := by simp [wordT]
    rw [e]
    unfold tokP
    rw [if_neg (by simp), if_neg (by simp), if_neg (by simp), if_neg (by simp), if_neg (by simp), if_neg (by simp), if_pos (by simp), numP_app hn]
    rfl
  · have e : wordT ⟨5, n⟩ = [110, 101, 119] ++ Lib.itoa n := by simp [wordT]
    rw [e]
    unfold tokP
    rw [if_neg (by simp), if_neg (by simp), if_neg (by simp), if_neg (by simp), if_neg (by simp), if_neg (by simp), if_neg (by simp), if_pos (by simp), numP_app hn]
    rfl
  · have e : wordT ⟨6, n⟩ = [102] ++ Lib.itoa n := by simp [wordT]
    rw [e]
    unfold tokP
    rw [if_neg (by simp), if_neg (by simp), if_neg (by simp), if_neg (by simp), if_neg (by simp), if_neg (by simp), if_neg (by simp), if_neg (by simp), if_pos (by simp), numP_app hn]
    rfl
theorem exprP_word {ps : List Int} {c : Int} (hc : c ≤ 6) (hp : ps.length ≤ 4) : ∀ (e acc : List Tok) (want : Int) (rest : List Str), wants ps want e → (∀ t ∈ e, TokOk ps c t) → acc.length + e.length ≤ 24 → exprP ps (exprW e ++ rest) acc want = some (acc ++ e, rest)
  | [], acc, want, rest, hw, _, _ => by
    have : want = 0 := hw
    subst this
    cases rest with
    | nil => simp [exprW, exprP]
    | cons s r => simp [exprW, exprP]
  | t :: e, acc, want, rest, hw, ht, hl => by
    obtain ⟨h1, h2⟩ := hw
    simp only [List.length_cons] at hl
    show exprP ps (wordT t :: (exprW e ++ rest)) acc want = _
    unfold exprP
    rw [if_pos h1, tokP_word (ht t (by simp)) hc hp, Option.bind_some]
    simp only
    rw [if_neg (by omega), exprP_word hc hp e _ _ rest h2 (fun x hx => ht x (List.mem_cons_of_mem _ hx)) (by simp only [List.length_append, List.length_singleton]; omega)]
    simp
theorem expr_word {ps : List Int} {c : Int} (hc : c ≤ 6) (hp : ps.length ≤ 4) {e : List Tok} (h : ExprOk ps c e) (rest : List Str) : exprP ps (exprW e ++ rest) [] 1 = some (e, rest) := by
  have := exprP_word hc hp e [] 1 rest h.2.2 h.2.1 (by simpa using h.1)
  simpa using this
theorem stP_word {ps : List Int} {c : Int} (hc : c ≤ 6) (hp : ps.length ≤ 4) {blk : List Str → Option (List GStmt × List Str)} {bw : List GStmt → List Str} {s : GStmt} (ha : ∀ r, blk (bw s.a ++ r) = some (s.a, r)) (hb : ∀ r, blk (bw s.b ++ r) = some (s.b, r)) (h : Shape ps c s) (rest : List Str) :
    stP ps blk (stW bw s ++ rest) = some (some s, rest) := by
  obtain ⟨k, n, e, f, a, b⟩ := s
  unfold Shape at h
  simp only at h ha hb
  rcases h with ⟨rfl, h1, h2, rfl, rfl, rfl⟩ | ⟨rfl, h1, h2, h3, rfl, rfl⟩ | ⟨rfl, rfl, h2, rfl, rfl, rfl⟩ | ⟨rfl, rfl, rfl, rfl, rfl, rfl⟩ | ⟨rfl, rfl, h2, rfl, rfl, rfl⟩ | ⟨rfl, rfl, h2, rfl⟩ | ⟨rfl, rfl, h2, rfl, rfl⟩ | ⟨rfl, rfl, h2, rfl, rfl, rfl⟩
  · have e0 : stW bw ⟨1, n, e, [], [], []⟩ ++ rest = [115, 101, 116] :: Lib.itoa n :: (exprW e ++ rest) := by simp [stW, kindW, exprW]
    rw [e0]
    unfold stP nextP
    simp only [Option.bind_some]
    rw [if_neg (by decide), if_pos trivial, numR_ok (small_I64 (by omega) (by omega)), Option.bind_some, expr_word hc hp h2]
    rfl
  · have e0 : stW bw ⟨2, n, e, f, [], []⟩ ++ rest = [112, 117, 116] :: Lib.itoa n :: (exprW e ++ (exprW f ++ rest)) := by simp [stW, kindW, exprW]
    rw [e0]
    unfold stP nextP
    simp only [Option.bind_some]
    rw [if_neg (by decide), if_neg (by decide), if_pos trivial, numR_ok (small_I64 (by omega) (by omega)), Option.bind_some, expr_word hc hp h2, Option.bind_some, expr_word hc hp h3]
    rfl
  · have e0 : stW bw ⟨3, 0, e, [], [], []⟩ ++ rest = [115, 97, 121] :: (exprW e ++ rest) := by simp [stW, kindW, exprW]
    rw [e0]
    unfold stP nextP
    simp only [Option.bind_some]
    rw [if_neg (by decide), if_neg (by decide), if_neg (by decide), if_pos trivial, expr_word hc hp h2]
    rfl
  · rfl
  · have e0 : stW bw ⟨5, 0, e, [], [], []⟩ ++ rest = [103, 111] :: (exprW e ++ rest) := by simp [stW, kindW, exprW]
    rw [e0]
    unfold stP nextP
    simp only [Option.bind_some]
    rw [if_neg (by decide), if_neg (by decide), if_neg (by decide), if_neg (by decide), if_neg (by decide), if_pos trivial, expr_word hc hp h2]
    rfl
  · have e0 : stW bw ⟨6, 0, e, [], a, b⟩ ++ rest = [105, 102] :: (exprW e ++ (bw a ++ (bw b ++ rest))) := by simp [stW, kindW, exprW]
    rw [e0]
    unfold stP nextP
    simp only [Option.bind_some]
    rw [if_neg (by decide), if_neg (by decide), if_neg (by decide), if_neg (by decide), if_neg (by decide), if_neg (by decide), if_pos trivial, expr_word hc hp h2, Option.bind_some, ha, Option.bind_some, hb]
    rfl
  · have e0 : stW bw ⟨7, 0, e, [], a, []⟩ ++ rest = [119, 104, 105, 108, 101] :: (exprW e ++ (bw a ++ rest)) := by simp [stW, kindW, exprW]
    rw [e0]
    unfold stP nextP
    simp only [Option.bind_some]
    rw [if_neg (by decide), if_neg (by decide), if_neg (by decide), if_neg (by decide), if_neg (by decide), if_neg (by decide), if_neg (by decide), if_pos trivial, expr_word hc hp h2, Option.bind_some, ha]
    rfl
  · have e0 : stW bw ⟨8, 0, e, [], [], []⟩ ++ rest = [114, 101, 116, 117, 114, 110] :: (exprW e ++ rest) := by simp [stW, kindW, exprW]
    rw [e0]
    unfold stP nextP
    simp only [Option.bind_some]
    rw [if_neg (by decide), if_neg (by decide), if_neg (by decide), if_neg (by decide), if_neg (by decide), if_neg (by decide), if_neg (by decide), if_neg (by decide), if_pos trivial, expr_word hc hp h2]
    rfl
theorem loopP_word {st : List Str → Option (Option GStmt × List Str)} {sw : GStmt → List Str} (he : ∀ r, st ([125] :: r) = some (none, r)) : ∀ (l : List GStmt) (n : Nat) (acc : List GStmt) (rest : List Str), l.length < n → (∀ s ∈ l, ∀ r, st (sw s ++ r) = some (some s, r)) → loopP st n (l.flatMap sw ++ [125] :: rest) acc = some (acc ++ l, rest)
  | [], n, acc, rest, hn, _ => by
    obtain ⟨m, rfl⟩ : ∃ m, n = m + 1 := ⟨n - 1, by simp at hn; omega⟩
    show loopP st (m + 1) ([125] :: rest) acc = _
    unfold loopP
    rw [he]; simp
  | s :: l, n, acc, rest, hn, hs => by
    obtain ⟨m, rfl⟩ : ∃ m, n = m + 1 := ⟨n - 1, by simp at hn; omega⟩
    rw [List.flatMap_cons, List.append_assoc]
    unfold loopP
    rw [hs s (by simp), Option.bind_some]
    simp only
    rw [loopP_word he l m _ rest (by simp at hn; omega) (fun x hx => hs x (List.mem_cons_of_mem _ hx))]
    simp
theorem blkP_word {ps : List Int} {c : Int} (hc : c ≤ 6) (hp : ps.length ≤ 4) {n : Nat} (hn : 30 < n) : ∀ (k : Nat) (l : List GStmt) (rest : List Str), BlkOk ps c k l → blkP ps n (k + 1) (blkW k l ++ rest) = some (l, rest)
  | 0, l, rest, h => by
    have : l = [] := h
    subst this
    obtain ⟨m, rfl⟩ : ∃ m, n = m + 1 := ⟨n - 1, by omega⟩
    rfl
  | k + 1, l, rest, h => by
    have e : blkW (k + 1) l ++ rest = [123] :: (l.flatMap (stW (blkW k)) ++ [125] :: rest) := by rw [blkW]; simp
    rw [e, blkP]
    unfold nextP
    rw [Option.bind_some, if_pos rfl, loopP_word (fun r => rfl) l n [] rest (by have := h.1; omega) (fun s hs r => stP_word hc hp (fun r => blkP_word hc hp hn k s.a r (h.2 s hs).2.1) (fun r => blkP_word hc hp hn k s.b r (h.2 s hs).2.2) (h.2 s hs).1 r)]
    simp
theorem funP_word {ps : List Int} (hp : ps.length ≤ 4) {n : Nat} (hn : 30 < n) {x : Fun} (h : FunOk ps x) (rest : List Str) : funP ps n (funW 4 x ++ rest) = some (x, rest) := by
  have h1 := h.params
  have h2 := h.locals
  show funP ps n ([102, 117, 110] :: Lib.itoa x.params :: Lib.itoa x.locals :: (blkW 4 x.body ++ rest)) = _
  unfold funP nextP
  simp only [Option.bind_some]
  rw [if_pos trivial, numR_ok (small_I64 (by omega) (by omega)), Option.bind_some]
  simp only [Option.bind_some]
  rw [numR_ok (small_I64 (by omega) (by omega)), Option.bind_some, blkP_word (by omega) hp hn 4 _ _ h.body]
  rfl
theorem progP_word {ps : List Int} (hp : ps.length ≤ 4) {n : Nat} (hn : 30 < n) : ∀ (f : List Fun) (m : Nat) (acc : List Fun), f.length < m → (∀ x ∈ f, FunOk ps x) → progP ps n m (progW 4 f) acc = some (acc ++ f)
  | [], m, acc, hm, _ => by
    obtain ⟨m, rfl⟩ : ∃ k, m = k + 1 := ⟨m - 1, by simp at hm; omega⟩
    show progP ps n (m + 1) [] acc = _
    unfold progP
    rw [if_pos rfl]; simp
  | x :: f, m, acc, hm, h => by
    obtain ⟨m, rfl⟩ : ∃ k, m = k + 1 := ⟨m - 1, by simp at hm; omega⟩
    unfold progP
    have e : progW 4 (x :: f) = funW 4 x ++ progW 4 f := by simp [progW]
    rw [if_neg (by rw [e]; simp [funW]), e, funP_word hp hn (h x (by simp)), Option.bind_some]
    simp only
    rw [progP_word hp hn f m _ (by simp at hm; omega) (fun y hy => h y (List.mem_cons_of_mem _ hy))]
    simp
/-- Unlike programs have unlike words. -/
theorem progW_inj {f g : List Fun} (hf : ProgOk f) (hg : ProgOk g) (hps : f.map (·.params) = g.map (·.params)) (h : progW 4 f = progW 4 g) : f = g := by
  have h1 := progP_word (ps := f.map (·.params)) (by have := hf.many; simpa using this.2) (n := 31) (by decide) f 5 [] (by have := hf.many; omega) hf.fn
  have h2 := progP_word (ps := g.map (·.params)) (by have := hg.many; simpa using this.2) (n := 31) (by decide) g 5 [] (by have := hg.many; omega) hg.fn
  rw [h, hps, h2] at h1
  simpa using h1.symm
end Go.LX

namespace Go.LX
open Go.Proofs
theorem blkW_all {ps : List Int} {c : Int} {P : Str → Prop} (h1 : P [123]) (h2 : P [125]) (h3 : ∀ k : Int, 1 ≤ k → k ≤ 8 → P (kindW k)) (h4 : ∀ n, I64 n → P (Lib.itoa n)) (h5 : ∀ t, TokOk ps c t → P (wordT t)) (hc : c ≤ 6) :
    ∀ (k : Nat) (l : List GStmt), BlkOk ps c k l → ∀ w ∈ blkW k l, P w
  | 0, l, h, w, hw => by
    simp only [blkW, List.mem_cons, List.not_mem_nil, or_false] at hw
    rcases hw with rfl | rfl
    · exact h1
    · exact h2
  | k + 1, l, h, w, hw => by
    simp only [blkW, List.mem_cons, List.mem_append, List.mem_flatMap, List.not_mem_nil, or_false] at hw
    rcases hw with rfl | ⟨s, hs, hw⟩ | rfl
    · exact h1
    · obtain ⟨g1, g2, g3⟩ := h.2 s hs
      have ia := blkW_all h1 h2 h3 h4 h5 hc k s.a g2
      have ib := blkW_all h1 h2 h3 h4 h5 hc k s.b g3
      have he : ∀ e, ExprOk ps c e → ∀ w ∈ exprW e, P w := fun e h w hw => by
        obtain ⟨t, ht, rfl⟩ := List.mem_map.1 hw
        exact h5 t (h.2.1 t ht)
      have hk : 1 ≤ s.kind ∧ s.kind ≤ 8 := by unfold Shape at g1; omega
      have hee : ∀ w ∈ exprW s.e, P w := by
        unfold Shape at g1
        rcases g1 with ⟨_, _, h, _⟩ | ⟨_, _, h, _⟩ | ⟨_, _, h, _⟩ | ⟨_, _, h, _⟩ | ⟨_, _, h, _⟩ | ⟨_, _, h, _⟩ | ⟨_, _, h, _⟩ | ⟨_, _, h, _⟩
        all_goals first | exact he _ h | (rw [h]; intro w hw; cases hw)
      have hff : ∀ w ∈ exprW s.f, P w := by
        unfold Shape at g1
        rcases g1 with ⟨_, _, _, h, _⟩ | ⟨_, _, _, h, _⟩ | ⟨_, _, _, h, _⟩ | ⟨_, _, _, h, _⟩ | ⟨_, _, _, h, _⟩ | ⟨_, _, _, h⟩ | ⟨_, _, _, h, _⟩ | ⟨_, _, _, h, _⟩
        all_goals first | exact he _ h | (rw [h]; intro w hw; cases hw)
      have hn : s.kind = 1 ∨ s.kind = 2 → I64 s.n := by
        intro hq
        unfold Shape at g1
        exact small_I64 (by omega) (by omega)
      unfold stW at hw
      simp only [List.mem_append, List.mem_singleton] at hw
      rcases hw with ((((rfl | hw) | hw) | hw) | hw) | hw
      · exact h3 _ hk.1 hk.2
      · split at hw
        · rename_i hq
          simp only [List.mem_singleton] at hw
          subst hw
          exact h4 _ (hn hq)
        · cases hw
      · exact hee w hw
      · exact hff w hw
      · split at hw
        · exact ia w hw
        · cases hw
      · split at hw
        · exact ib w hw
        · cases hw
    · exact h2
theorem kind_cases {P : Str → Prop} (h : ∀ i, 1 ≤ i → i ≤ 8 → P ((kindsL[i]?).getD [])) : ∀ k : Int, 1 ≤ k → k ≤ 8 → P (kindW k) := fun k h1 h2 => by
  unfold kindW
  exact h k.toNat (by omega) (by omega)
theorem tok_word_all {ps : List Int} {c : Int} {P : Str → Prop} (h1 : P [43]) (h2 : P [45]) (h3 : P [42]) (h4 : P [60]) (h5 : P [61]) (hi : ∀ b, b = [] ∨ b = [118] ∨ b = [46] ∨ b = [110, 101, 119] ∨ b = [102] → ∀ n, I64 n → P (b ++ Lib.itoa n)) (hc : c ≤ 6) (hp : ps.length ≤ 4) : ∀ t, TokOk ps c t → P (wordT t) := fun t h => by
  have hn := h.n hc hp
  obtain ⟨k, n⟩ := t
  unfold TokOk at h
  simp only at h hn
  rcases h with ⟨rfl, h⟩ | ⟨rfl, h⟩ | ⟨rfl, h⟩ | ⟨rfl, h⟩ | ⟨rfl, h⟩ | ⟨rfl, h⟩
  · exact hi [] (by simp) n hn
  · exact hi [118] (by simp) n hn
  · have : n = 1 ∨ n = 2 ∨ n = 3 ∨ n = 4 ∨ n = 5 := by omega
    rcases this with rfl | rfl | rfl | rfl | rfl
    · exact h1
    · exact h2
    · exact h3
    · exact h4
    · exact h5
  · exact hi [46] (by simp) n hn
  · exact hi [110, 101, 119] (by simp) n hn
  · exact hi [102] (by simp) n hn
abbrev funS : Str := [102, 117, 110]
theorem blk_nofun {ps : List Int} {c : Int} (hc : c ≤ 6) (hp : ps.length ≤ 4) (k : Nat) (l : List GStmt) (h : BlkOk ps c k l) : ∀ w ∈ blkW k l, w ≠ funS := by
  have hi : ∀ n, Lib.itoa n ≠ funS := fun n => itoa_neq n _ _ (by decide) (by decide)
  refine blkW_all (P := fun w => w ≠ funS) (by decide) (by decide) (kind_cases (P := fun w => w ≠ funS) ?_) (fun n _ => hi n) (tok_word_all (P := fun w => w ≠ funS) (by decide) (by decide) (by decide) (by decide) (by decide) ?_ hc hp) hc k l h
  · intro i h1 h2
    have : i = 1 ∨ i = 2 ∨ i = 3 ∨ i = 4 ∨ i = 5 ∨ i = 6 ∨ i = 7 ∨ i = 8 := by omega
    rcases this with rfl | rfl | rfl | rfl | rfl | rfl | rfl | rfl <;> decide
  · intro b hb n hn
    rcases hb with rfl | rfl | rfl | rfl | rfl
    · exact hi n
    · simp [funS]
    · simp [funS]
    · simp [funS]
    · intro e
      have : Lib.itoa n = [117, 110] := by simpa [funS] using e
      exact itoa_neq n _ _ (by decide) (by decide) this
theorem blk_nospace {ps : List Int} {c : Int} (hc : c ≤ 6) (hp : ps.length ≤ 4) (k : Nat) (l : List GStmt) (h : BlkOk ps c k l) : ∀ w ∈ blkW k l, (32 : UInt8) ∉ w := by
  have hi : ∀ n, (32 : UInt8) ∉ Lib.itoa n := fun n => itoa_free (by decide)
  refine blkW_all (P := fun w => (32 : UInt8) ∉ w) (by decide) (by decide) (kind_cases (P := fun w => (32 : UInt8) ∉ w) ?_) (fun n _ => hi n) (tok_word_all (P := fun w => (32 : UInt8) ∉ w) (by decide) (by decide) (by decide) (by decide) (by decide) ?_ hc hp) hc k l h
  · intro i h1 h2
    have : i = 1 ∨ i = 2 ∨ i = 3 ∨ i = 4 ∨ i = 5 ∨ i = 6 ∨ i = 7 ∨ i = 8 := by omega
    rcases this with rfl | rfl | rfl | rfl | rfl | rfl | rfl | rfl <;> decide
  · intro b hb n hn
    rcases hb with rfl | rfl | rfl | rfl | rfl <;> simp [hi n]
theorem blk_wlen {ps : List Int} {c : Int} (hc : c ≤ 6) (hp : ps.length ≤ 4) (k : Nat) (l : List GStmt) (h : BlkOk ps c k l) : ∀ w ∈ blkW k l, w.length ≤ 24 := by
  refine blkW_all (P := fun w => w.length ≤ 24) (by decide) (by decide) (kind_cases (P := fun w => w.length ≤ 24) ?_) (fun n hn => Nat.le_trans (itoa_len hn) (by decide)) (tok_word_all (P := fun w => w.length ≤ 24) (by decide) (by decide) (by decide) (by decide) (by decide) ?_ hc hp) hc k l h
  · intro i h1 h2
    have : i = 1 ∨ i = 2 ∨ i = 3 ∨ i = 4 ∨ i = 5 ∨ i = 6 ∨ i = 7 ∨ i = 8 := by omega
    rcases this with rfl | rfl | rfl | rfl | rfl | rfl | rfl | rfl <;> decide
  · intro b hb n hn
    have := itoa_len hn
    rcases hb with rfl | rfl | rfl | rfl | rfl <;> simp <;> omega
def LW : Nat → Nat
  | 0 => 2
  | k + 1 => 2 + 30 * (50 + 2 * LW k)
theorem flatMap_len {α β : Type} {f : α → List β} {m : Nat} : ∀ {l : List α}, (∀ x ∈ l, (f x).length ≤ m) → (l.flatMap f).length ≤ l.length * m
  | [], _ => by simp
  | x :: l, h => by
    have := flatMap_len (fun y hy => h y (List.mem_cons_of_mem x hy))
    have h1 := h x (by simp)
    rw [List.flatMap_cons, List.length_append, List.length_cons, Nat.succ_mul]
    omega
theorem expr_len {ps : List Int} {c : Int} {e : List Tok} (h : ExprOk ps c e) : e.length ≤ 24 := h.1
theorem shape_len {ps : List Int} {c : Int} {s : GStmt} (h : Shape ps c s) : s.e.length ≤ 24 ∧ s.f.length ≤ 24 := by
  unfold Shape at h
  rcases h with ⟨_, _, h, h', _⟩ | ⟨_, _, h, h', _⟩ | ⟨_, _, h, h', _⟩ | ⟨_, _, h, h', _⟩ | ⟨_, _, h, h', _⟩ | ⟨_, _, h, h'⟩ | ⟨_, _, h, h', _⟩ | ⟨_, _, h, h', _⟩
  all_goals exact ⟨by first | exact h.1 | (rw [h]; decide), by first | exact h'.1 | (rw [h']; decide)⟩
theorem blkW_len {ps : List Int} {c : Int} : ∀ (k : Nat) (l : List GStmt), BlkOk ps c k l → (blkW k l).length ≤ LW k
  | 0, l, h => by simp [blkW, LW]
  | k + 1, l, h => by
    have h1 : ∀ s ∈ l, (stW (blkW k) s).length ≤ 50 + 2 * LW k := fun s hs => by
      obtain ⟨g1, g2, g3⟩ := h.2 s hs
      have ia := blkW_len k s.a g2
      have ib := blkW_len k s.b g3
      obtain ⟨he, hf⟩ := shape_len g1
      unfold stW
      simp only [List.length_append, List.length_singleton, exprW, List.length_map]
      split <;> split <;> split <;> simp only [List.length_singleton, List.length_nil] <;> omega
    have h2 := flatMap_len h1
    have h3 := Nat.mul_le_mul_right (50 + 2 * LW k) h.1
    simp only [blkW, List.length_cons, List.length_append, List.length_nil, LW]
    omega
/-! What each function asks for, read ahead. -/
def headV (s : Str) : Int := max 0 (min (match Lib.atoiAll s with | .ok v => v | .range => Lib.atoiSat s | _ => 0) 3)
def headsP : List Str → List Int
  | [] => []
  | [_] => []
  | x :: y :: r => if x = funS then headV y :: headsP (y :: r) else headsP (y :: r)
theorem headsP_skip {x : Str} {r : List Str} (h : x ≠ funS) : headsP (x :: r) = headsP r := by
  cases r with
  | nil => rfl
  | cons y r => rw [headsP, if_neg h]
theorem headsP_skips : ∀ {l r : List Str}, (∀ w ∈ l, w ≠ funS) → headsP (l ++ r) = headsP r
  | [], _, _ => rfl
  | x :: l, r, h => by rw [List.cons_append, headsP_skip (h x (by simp)), headsP_skips (fun w hw => h w (List.mem_cons_of_mem _ hw))]
theorem headV_itoa {n : Int} (h1 : 0 ≤ n) (h2 : n ≤ 3) : headV (Lib.itoa n) = n := by
  unfold headV
  rw [atoi_itoa (small_I64 (by omega) (by omega))]
  simp only
  omega
theorem heads_fun {ps : List Int} (hp : ps.length ≤ 4) {x : Fun} (h : FunOk ps x) (r : List Str) : headsP (funW 4 x ++ r) = x.params :: headsP r := by
  have hi : ∀ n, Lib.itoa n ≠ funS := fun n => itoa_neq n _ _ (by decide) (by decide)
  show headsP (funS :: Lib.itoa x.params :: Lib.itoa x.locals :: (blkW 4 x.body ++ r)) = _
  rw [headsP, if_pos rfl, headV_itoa h.params.1 h.params.2, headsP_skip (hi _), headsP_skip (hi _), headsP_skips (blk_nofun h.locals.2 hp 4 _ h.body)]
theorem heads_prog {ps : List Int} (hp : ps.length ≤ 4) : ∀ {f : List Fun}, (∀ x ∈ f, FunOk ps x) → headsP (progW 4 f) = f.map (·.params)
  | [], _ => rfl
  | x :: f, h => by
    have e : progW 4 (x :: f) = funW 4 x ++ progW 4 f := by simp [progW]
    rw [e, heads_fun hp (h x (by simp)), heads_prog hp (fun y hy => h y (List.mem_cons_of_mem _ hy))]
    rfl
theorem headsP_bd : ∀ (w : List Str), ∀ n ∈ headsP w, 0 ≤ n ∧ n ≤ 3
  | [], n, hn => by cases hn
  | [_], n, hn => by cases hn
  | x :: y :: r, n, hn => by
    have ih := headsP_bd (y :: r)
    rw [headsP] at hn
    split at hn
    · rcases List.mem_cons.1 hn with rfl | hn
      · unfold headV; omega
      · exact ih n hn
    · exact ih n hn
theorem prog_all {f : List Fun} (h : ProgOk f) : (∀ w ∈ progW 4 f, (32 : UInt8) ∉ w ∧ w.length ≤ 24) ∧ (progW 4 f).length ≤ f.length * (3 + LW 4) ∧ progW 4 f ≠ [] := by
  have hp : (f.map (·.params)).length ≤ 4 := by simpa using h.many.2
  refine ⟨fun w hw => ?_, flatMap_len fun x hx => ?_, ?_⟩
  · obtain ⟨x, hx, hw⟩ := List.mem_flatMap.1 hw
    have hx := h.fn x hx
    have h1 := hx.params; have h2 := hx.locals
    have i1 : I64 x.params := small_I64 (by omega) (by omega)
    have i2 : I64 x.locals := small_I64 (by omega) (by omega)
    simp only [funW, List.mem_cons] at hw
    rcases hw with rfl | rfl | rfl | hw
    · decide
    · exact ⟨itoa_free (by decide), Nat.le_trans (itoa_len i1) (by decide)⟩
    · exact ⟨itoa_free (by decide), Nat.le_trans (itoa_len i2) (by decide)⟩
    · exact ⟨blk_nospace hx.locals.2 hp 4 _ hx.body w hw, blk_wlen hx.locals.2 hp 4 _ hx.body w hw⟩
  · have := blkW_len 4 _ (h.fn x hx).body
    simp only [funW, List.length_cons]
    omega
  · have := h.many.1
    match f, this with
    | x :: f, _ => simp [progW, funW]
theorem progW_inj2 {f g : List Fun} (hf : ProgOk f) (hg : ProgOk g) (h : progW 4 f = progW 4 g) : f = g := by
  refine progW_inj hf hg ?_ h
  rw [← heads_prog (by simpa using hf.many.2) hf.fn, ← heads_prog (by simpa using hg.many.2) hg.fn, h]
def textP (f : List Fun) : Str := joinC 32 (progW 4 f)
theorem split_textP {f : List Fun} (h : ProgOk f) : splitC 32 (textP f) = progW 4 f := split_joinC 32 _ (prog_all h).2.2 (fun w hw => ((prog_all h).1 w hw).1)
theorem textP_inj {f g : List Fun} (hf : ProgOk f) (hg : ProgOk g) (h : textP f = textP g) : f = g := by
  refine progW_inj2 hf hg ?_
  rw [← split_textP hf, ← split_textP hg, h]
/-- The reading of a text. -/
def wordsP (s : Str) : Option (List Fun) := progP (headsP (splitC 32 s)) 60010 60010 (splitC 32 s) []
theorem wordsP_text {f : List Fun} (h : ProgOk f) : wordsP (textP f) = some f := by
  unfold wordsP
  have hp : (f.map (·.params)).length ≤ 4 := by simpa using h.many.2
  rw [split_textP h, heads_prog hp h.fn, progP_word hp (by decide) f _ [] (by have := h.many; omega) h.fn]
  rfl
theorem progW_up {f : List Fun} (h : ProgOk f) : progW 5 f = progW 4 f := by
  unfold progW
  refine flatMap_cong fun x hx => ?_
  unfold funW
  rw [blkW_up (h.fn x hx).body]
theorem wordsP_back {s : Str} {f : List Fun} (h : wordsP s = some f) (hf : ProgOk f) : s = textP f := by
  unfold wordsP at h
  obtain ⟨f', h1, h2⟩ := progP_some _ _ _ h
  simp only [List.nil_append] at h1
  subst h1
  unfold textP
  rw [← progW_up hf, ← h2, join_splitC]
end Go.LX
