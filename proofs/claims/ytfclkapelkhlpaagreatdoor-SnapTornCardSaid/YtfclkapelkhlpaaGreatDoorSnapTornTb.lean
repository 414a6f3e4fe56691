/-
  What the law SnapTorn needs of our own library and of the walks, no more.
-/
import Derived.Laws.IdiomRangeMap
import Derived.Lib.FieldsLaws
import Derived.Test.YtfclkapelkhlpaaGreatDoorProg
import Derived.Lib.Strings
import Derived.Lib.Slices
import Derived.Lib.Walk
import Derived.Lib.Bytealg
import Derived.Shelf.Strings.OnBuilder
import Derived.Shelf.LaysM
import Derived.Shelf.Strconv.Itoa3
import Derived.Shelf.LaysC
import Derived.Shelf.Strconv.AtoiAll
import Derived.Shelf.Strconv.ErrVarAll
import Derived.Shelf.Strings.Split
import Derived.Shelf.Strings.Fields
import Derived.Shelf.Strings.BuilderX
import Derived.Test.YtfclkapelkhlpaaGreatDoorSnapTornTa
set_option linter.unusedSimpArgs false
set_option linter.unusedVariables false
set_option maxRecDepth 10000
namespace Go.LX
open Go.RowKit Go.Proofs
def Yu {α : Type} (f : α → Value) (m r : Nat) (last : Option (Int × α)) (left : List (Int × α)) (w : World) : Prop :=
  m ≠ r ∧ ∃ es clock seen, w.heap[m]? = some (.map es clock) ∧ xw es clock ∧ w.heap[r]? = some (.mapIter (some m) clock seen clock) ∧
    (leftOf es seen).toList.map (fun e => (e.key, e.val)) = left.map (fun p => (Value.int .i64 p.1, f p.2)) ∧
    ∀ p, last = some p → ∃ e ∈ es.toList, seen.back? = some e.born ∧ e.key = .int .i64 p.1 ∧ e.val = f p.2
def Fz {α : Type} (f : α → Value) (m r : Nat) (last : Option (Int × α)) (left : List (Int × α)) : Vl where
  own x := x = m ∨ x = r
  P w _ := Yu f m r last left w
  lt := by
    rintro w A x ⟨_, es, clock, seen, h1, _, h2, _⟩ (rfl | rfl)
    · exact fA h1
    · exact fA h2
  go := by
    rintro w w' A A' K ⟨h0, es, clock, seen, h1, h2, h3, h4⟩ hk hK hKo hA
    exact ⟨h0, es, clock, seen, hk.blk h1 (fun h => hKo m h (.inl rfl)), h2, hk.blk h3 (fun h => hKo r h (.inr rfl)), h4⟩
section
variable {P : Program} {ops : Array Oper} {Q : Exit → Act → World → Prop} {n : Nat} {env : Nat → Value} {w w' w0 : World} {M K : BS} {hp : Nat → Chunk} {rest : List Oper}
  {d : Option Nat} {op : Op} {ty : TypeId} {pos : String} {af : Array Edge} {v : Value} {g : Option (Nat × Bool)} {T : TypeId} {ρ : Operand → Value} {x y : Operand} {α : Type} {f : α → Value}
theorem Ra {z : Value} {m : Nat} {eD : List (Int × Value)} (l : List (Int × α)) (h : SH w0 M K w hp) (i : Nat) (hi : hp i = .mp m eD) (hT : MapOf P T z) (hx : ev n env x = .map (some m)) (he : eD = l.map fun p => (p.1, f p.2))
    (k : ∀ w' r, SH w0 M K w' (bg hp i (.gZ (Fz f m r none l))) → WL P ops Q rest n (iU env d (.pointer (some ⟨r, 0, none⟩))) w') : WL P ops Q (⟨d, .range T x, ty, pos, af, none⟩ :: rest) n env w := by
  obtain ⟨K', E, h1, h2, h3⟩ := hT.desc
  obtain ⟨es, clock, hb, he2, NU⟩ := h.Kc i hi
  have hrun : (execOp (ev n env) ⟨d, .range T x, ty, pos, af, none⟩).run P w = .ok (.value (.pointer (some ⟨w.heap.size, 0, none⟩))) (w.alloc (.mapIter (some m) clock #[] clock)) := by
    simp only [execOp, hx]
    simp [run_range_map w T K' E m es clock h1 hb]
  refine aa hrun (k _ _ ?_)
  have hlt := fA hb
  refine h.step i (N := BE) (Grow.alloc _ _) (fun _ h => h.elim) (fun b hb' hl => ?_) ?_
  · rw [hi]
    rcases hb' with rfl | rfl
    · rfl
    · exact absurd hl (Nat.lt_irrefl _)
  · refine ⟨Nat.ne_of_lt hlt, es, clock, #[], by rw [(Grow.alloc _ _).blk hb], NU, heap_alloc_new _ _, ?_, fun p h => by cases h⟩
    have : leftOf es #[] = es := by unfold leftOf; exact Array.filter_eq_self.2 (fun x _ => by simp)
    rw [this, he2, he, List.map_map]
    rfl
theorem Dt {r : Nat} {a : Option Nat} {s c : Nat} {sn : Array Nat} (o : Obj) (hr : w.heap[r]? = some (.mapIter a s sn c)) : (setObj r o).run P w = .ok () (qb w r o) := by
  simp only [setObj, Sem.run, hr]
  rfl
theorem run_next_any (ty : TypeId) {m r clock : Nat} {es : Array MapEntry} {seen : Array Nat} (hm : w.heap[m]? = some (.map es clock)) (hr : w.heap[r]? = some (.mapIter (some m) clock seen clock)) (NU : ∀ e ∈ es.toList, e.born < clock) :
    ((leftOf es seen).size = 0 ∧ (Instr.next (.pointer (some ⟨r, 0, none⟩)) false ty).run P w = .ok (.tuple #[.bool false]) w) ∨
    ∃ e ∈ (leftOf es seen).toList, ∃ w1 : World, (w1 = w ∨ w1 = w.drew) ∧ (Instr.next (.pointer (some ⟨r, 0, none⟩)) false ty).run P w = .ok (.tuple #[.bool true, e.key, e.val]) (qb w1 r (.mapIter (some m) clock (seen.push e.born) clock)) := by
  have hgr : (getObj r).run P w = .ok (.mapIter (some m) clock seen clock) w := by simp [getObj, Sem.run, hr]
  have hgm : (getObj m).run P w = .ok (.map es clock) w := by simp [getObj, Sem.run, hm]
  simp only [Instr.next, Sem.run_bind, hgr, hgm, Result.andThen_ok, next_test_false seen es clock clock NU (Nat.le_refl _), Bool.false_eq_true, if_false]
  unfold leftOf
  have hmem : ∀ x ∈ (Array.filter (fun e => !seen.contains e.born) es).toList, x.born < clock := fun x hx => NU x (by simp at hx ⊢; exact hx.1)
  generalize Array.filter (fun e => !seen.contains e.born) es = L at hmem ⊢
  have e1 : L.filter (fun x => decide (x.born < clock)) = L := Array.filter_eq_self.2 (fun x hx => by simpa using hmem x (by simpa using hx))
  have e2 : L.filter (fun x => decide (x.born ≥ clock)) = #[] := by
    rw [Array.filter_eq_empty_iff]
    intro x hx
    have := hmem x (by simpa using hx)
    simp
    omega
  simp only [e1, e2, Array.append_empty]
  by_cases h0 : L.size = 0
  · left
    have : L = #[] := Array.eq_empty_of_size_eq_zero h0
    subst this
    refine ⟨rfl, ?_⟩
    simp [choose, Sem.run, Question.forced]
  · right
    have hne : L.isEmpty = false := by simp [Array.isEmpty, h0]
    simp only [hne, Bool.false_eq_true, if_false, Array.empty_append, Array.size_map]
    have hch : ∃ (j : Nat) (w1 : World), j < L.size ∧ (w1 = w ∨ w1 = w.drew) ∧ (choose (Question.mapNext L.size)).run P w = .ok j w1 := by
      by_cases hf : L.size ≤ 1
      · exact ⟨0, w, by omega, .inl rfl, by simp [choose, Sem.run, Question.forced, hf]⟩
      · exact ⟨_, w.drew, Nat.mod_lt _ (by omega), .inr rfl, by
          simp only [choose, Sem.run, Question.forced, decide_eq_true_eq, hf, if_false, Question.cut]
          rfl⟩
    obtain ⟨j, w1, hj, hw1, hrun⟩ := hch
    refine ⟨L[j], by simp, w1, hw1, ?_⟩
    have hr1 : w1.heap[r]? = some (.mapIter (some m) clock seen clock) := by rcases hw1 with rfl | rfl <;> exact hr
    simp only [hrun, Array.getElem?_map, Array.getElem?_eq_getElem hj, Option.map_some, Sem.run_bind, Dt _ hr1, Result.andThen_ok]
    rfl
theorem IY (es : Array MapEntry) (seen : Array Nat) (b : Nat) : (leftOf es (seen.push b)).toList = (leftOf es seen).toList.filter (fun x => x.born != b) := by
  unfold leftOf
  rw [Array.toList_filter, Array.toList_filter, List.filter_filter]
  apply List.filter_congr
  intro x _
  have : (seen.push b).contains x.born = (seen.contains x.born || (x.born == b)) := by
    rw [Bool.eq_iff_iff]
    simp [Array.contains_iff_mem]
  rw [this]
  cases seen.contains x.born <;> cases hq : (x.born == b) <;> simp [bne, hq]
theorem TL {m r : Nat} {last : Option (Int × α)} {left : List (Int × α)} (h : SH w0 M K w hp) (i : Nat) (hi : hp i = .gZ (Fz f m r last left)) (hx : ev n env x = .pointer (some ⟨r, 0, none⟩))
    (k0 : left = [] → WL P ops Q rest n (iU env d (.tuple #[.bool false])) w)
    (k1 : ∀ p left' w', left.Perm (p :: left') → SH w0 M K w' (bg hp i (.gZ (Fz f m r (some p) left'))) → WL P ops Q rest n (iU env d (.tuple #[.bool true, .int .i64 p.1, f p.2])) w') :
    WL P ops Q (⟨d, .next x false, ty, pos, af, none⟩ :: rest) n env w := by
  have hc := h.ok i
  rw [hi] at hc
  obtain ⟨hne, es, clock, seen, h1, h2, h3, h4, h5⟩ := hc
  rcases run_next_any (P := P) ty h1 h3 h2.1 with ⟨g1, g2⟩ | ⟨e, he, w1, hw1, g2⟩
  · have hl : left = [] := by
      have : (leftOf es seen).toList = [] := List.eq_nil_of_length_eq_zero (by simpa using g1)
      rw [this] at h4
      cases left with
      | nil => rfl
      | cons p l => cases h4
    refine aa (v := .tuple #[.bool false]) (w' := w) ?_ (k0 hl)
    simp only [execOp, hx]
    simp [g2]
  · obtain ⟨A, B, Yv⟩ := List.append_of_mem he
    rw [Yv, List.map_append, List.map_cons] at h4
    obtain ⟨la, l2, rfl, q1, q2⟩ := List.map_eq_append_iff.1 h4.symm
    obtain ⟨p, lb, rfl, q3, q4⟩ := List.map_eq_cons_iff.1 q2
    simp only [Prod.mk.injEq] at q3
    have hlt1 := fA h3
    have hk1 : Grow w w1 := by
      rcases hw1 with rfl | rfl
      · exact aO.refl _ _
      · exact ⟨rfl, rfl, rfl, Nat.le_refl _, fun _ _ _ => rfl⟩
    have hk : aO (fun x => x = m ∨ x = r) w (qb w1 r (.mapIter (some m) clock (seen.push e.born) clock)) := aO.step (hk1.weaken (fun _ h _ => h.elim)) (aO.qb _ _ _) (fun x hx _ => .inr hx)
    have hm1 : (qb w1 r (.mapIter (some m) clock (seen.push e.born) clock)).heap[m]? = some (.map es clock) := by
      rw [(aO.qb w1 r _).block m hne (Nat.lt_of_lt_of_le (fA h1) hk1.size), hk1.blk h1]
    refine aa (v := .tuple #[.bool true, .int .i64 p.1, f p.2]) (w' := qb w1 r (.mapIter (some m) clock (seen.push e.born) clock)) ?_ (k1 p (la ++ lb) _ (List.perm_middle) ?_)
    · rw [q3.1, q3.2]
      simp only [execOp, hx]
      simp [g2]
    · refine h.zt (S' := Fz f m r (some p) (la ++ lb)) i hi ?_ hk (fun b hb _ => hb)
      refine ⟨hne, es, clock, seen.push e.born, hm1, h2, sH (Nat.lt_of_lt_of_le hlt1 hk1.size), ?_, fun p' hp' => ?_⟩
      · rw [IY, Yv]
        have hnd : ((leftOf es seen).toList.map (·.born)).Nodup := by
          unfold leftOf
          rw [Array.toList_filter]
          exact (h2.2.sublist ((List.filter_sublist (l := es.toList)).map _))
        rw [Yv, List.map_append, List.map_cons, List.nodup_append] at hnd
        obtain ⟨n1, n2, n3⟩ := hnd
        rw [List.filter_append, List.filter_cons_of_neg (by simp), List.filter_eq_self.2 (fun x hx => ?_), List.filter_eq_self.2 (fun x hx => ?_), List.map_append, List.map_append, ← q1, ← q4]
        · have := (List.nodup_cons.1 n2).1
          simp only [bne_iff_ne, ne_eq, decide_not, Bool.not_eq_true', beq_eq_false_iff_ne]
          intro hq
          exact this (by rw [← hq]; exact List.mem_map.2 ⟨x, hx, rfl⟩)
        · simp only [bne_iff_ne, ne_eq, decide_not, Bool.not_eq_true', beq_eq_false_iff_ne]
          intro hq
          exact n3 x.born (List.mem_map.2 ⟨x, hx, rfl⟩) e.born (by simp) hq
      · cases hp'
        refine ⟨e, ?_, by simp, q3.1.symm, q3.2.symm⟩
        have : e ∈ (leftOf es seen).toList := he
        unfold leftOf at this
        rw [Array.toList_filter] at this
        exact (List.mem_filter.1 this).1
theorem Rb {m r : Nat} {p : Int × α} {left : List (Int × α)} (h : SH w0 M K w hp) (i : Nat) (hi : hp i = .gZ (Fz f m r (some p) left)) (hx : ρ x = .pointer (some ⟨r, 0, none⟩)) :
    (execOp ρ ⟨d, .entry x, ty, pos, af, g⟩).run P w = .ok (.value (.tuple #[.int .i64 p.1, f p.2])) w := by
  have hc := h.ok i
  rw [hi] at hc
  obtain ⟨hne, es, clock, seen, h1, h2, h3, h4, h5⟩ := hc
  obtain ⟨e, he, hs, hk, hv⟩ := h5 p rfl
  have hgr : (getObj r).run P w = .ok (.mapIter (some m) clock seen clock) w := by simp [getObj, Sem.run, h3]
  have hgm : (getObj m).run P w = .ok (.map es clock) w := by simp [getObj, Sem.run, h1]
  have hf : es.find? (·.born == e.born) = some e := by rw [← Array.find?_toList]; exact find_born e es.toList h2.2 he
  simp only [execOp, hx]
  have : (Instr.entry (.pointer (some ⟨r, 0, none⟩))).run P w = .ok (.tuple #[.int .i64 p.1, f p.2]) w := by
    simp only [Instr.entry, Sem.run_bind, hgr, hgm, Result.andThen_ok, hs, bne_self_eq_false, Bool.false_eq_true, if_false, hf]
    rw [hk, hv]
    rfl
  simp [this]
theorem SH.F6 {m r : Nat} {last : Option (Int × α)} {left : List (Int × α)} (h : SH w0 M K w hp) (i : Nat) (hi : hp i = .gZ (Fz f m r last left)) : SH w0 M K w (bg hp i (.gZ (Fz f m r none left))) := by
  have hc := h.ok i
  rw [hi] at hc
  obtain ⟨hne, es, clock, seen, h1, h2, h3, h4, h5⟩ := hc
  exact h.zt (S' := Fz f m r none left) i hi ⟨hne, es, clock, seen, h1, h2, h3, h4, fun p h => by cases h⟩ (aO.refl _ _) (fun b hb _ => hb)
end
def Ej {α σ : Type} (step : α → σ → Option σ) : List α → σ → Option σ
  | [], s => some s
  | a :: l, s => (step a s).bind (Ej step l)
def p8 {α σ : Type} (step : α → σ → Option σ) (L : List α) (s fin : σ) : Prop := ∀ p, p.Perm L → Ej step p s = some fin
open Classical in
noncomputable def vK {α σ : Type} (step : α → σ → Option σ) (L : List α) (s : σ) : Option σ := if h : ∃ fin, p8 step L s fin then some h.choose else none
theorem TM {α σ : Type} {step : α → σ → Option σ} {L : List α} {s fin : σ} (h : vK step L s = some fin) : p8 step L s fin := by
  unfold vK at h
  split at h
  · rename_i hx
    cases h
    exact hx.choose_spec
  · cases h
theorem Kl {α σ : Type} {step : α → σ → Option σ} {L : List α} {s fin : σ} (h : p8 step L s fin) : vK step L s = some fin := by
  have hx : ∃ fin, p8 step L s fin := ⟨fin, h⟩
  unfold vK
  rw [dif_pos hx]
  have h1 := hx.choose_spec L (List.Perm.refl _)
  rw [h L (List.Perm.refl _)] at h1
  exact h1.symm
theorem p8.nil {α σ : Type} {step : α → σ → Option σ} {s fin : σ} (h : p8 step [] s fin) : s = fin := by
  have := h [] (List.Perm.refl _)
  exact Option.some.inj this
theorem p8.cons {α σ : Type} {step : α → σ → Option σ} {L L' : List α} {p : α} {s fin : σ} (h : p8 step L s fin) (hp : L.Perm (p :: L')) : ∃ s1, step p s = some s1 ∧ p8 step L' s1 fin := by
  have h0 := h (p :: L') hp.symm
  obtain ⟨s1, h1, h2⟩ := aJ h0
  refine ⟨s1, h1, fun q hq => ?_⟩
  have := h (p :: q) ((hq.cons p).trans hp.symm)
  unfold Ej at this
  rw [h1] at this
  exact this
end Go.LX
namespace Go.LX
open Go.RowKit Go.Proofs
section
variable {w0 w w' : World} {M K : BS} {hp : Nat → Chunk} {C : Chunk}
theorem SH.xC {b : Nat} {cs : List Value} (h : SH w M K w hp) (i : Nat) (ho : ∃ E, w.heap[b]? = some (.cells cs.toArray E (0, 0))) (hb : ¬ C.own' b) (hn : ∀ b, dQ hp b → C.own' b) : SH w M K w (bg hp i (.pt b 0 cs)) := by
  obtain ⟨E, hE⟩ := ho
  exact h.pt i (fun h => hb (hn b h)) ⟨_, E, _, hE, by simp⟩
theorem oQ {i b o : Nat} {cs : List Value} (hn : ∀ b, dQ hp b → C.own' b) : ∀ x, dQ (bg hp i (.pt b o cs)) x → C.own' x := by
  rintro x ⟨j, hj⟩
  by_cases e : j = i
  · subst e; rw [bu] at hj; exact hj.elim
  · rw [bT e] at hj; exact hn x ⟨j, hj⟩
theorem SH.OH {c e f : Chunk} (h : SH w0 M K w hp) (i j k : Nat) (hij : i ≠ j) (hik : i ≠ k) (hjk : j ≠ k) (hi : hp i = c) (hj : hp j = e) (hk0 : hp k = f) (hk : aO (fun b => c.own' b ∨ e.own' b ∨ f.own' b) w w') :
    SH w0 M K w' (bg (bg (bg (bg (bg hp j .no) i (.two (hp i) (hp j))) k .no) i (.two ((bg (bg hp j .no) i (.two (hp i) (hp j))) i) ((bg (bg hp j .no) i (.two (hp i) (hp j))) k))) i .no) := by
  have h1 := h.pair i j hij
  have h2 := h1.pair i k hik
  refine h2.uw i (bu _ _ _) ?_
  rw [bu, bT (fun e => hik e.symm), bT (fun e => hjk e.symm), hi, hj, hk0]
  refine hk.weaken (fun b hb _ => ?_)
  rcases hb with hb | hb | hb
  · exact .inl (.inl hb)
  · exact .inl (.inr hb)
  · exact .inr hb
end
section
variable {α : Type} {R : iR α} {E : TypeId} {w0 w w' : World} {M K A : BS} {hp : Nat → Chunk} {C : Chunk} {v : Value} {l : List α}
theorem dC.Yw {B : BS} (h : dC R E w A v l) (hB : ∀ b, ob v b → ¬ B b) : eY R w B A v l := by
  have h0 := h.src
  obtain ⟨xs, h1, h3⟩ := h
  rcases h1.2 with ⟨rfl, hn⟩ | ⟨g, cap, cur, rfl, e1, e2, e3, e4, e5, e6⟩
  · have : l = [] := List.eq_nil_of_length_eq_zero hn
    subst this
    exact eY.nil
  · obtain ⟨a, cap', q0, q1, q2, q3, q4⟩ := h0
    refine ⟨a, cap', q0, q1, q2, q3, fun i hi => ?_⟩
    obtain ⟨b, o, cells, F, fz, p1, p2, p3, p4⟩ := q4 i hi
    refine ⟨b, o, cells, F, fz, p1, ?_, p3, p4⟩
    subst p1
    simp only [Value.slice.injEq, Option.some.injEq, Addr.mk.injEq] at q0
    exact hB b (by simp [ob, q0.1.1])
theorem vL {i : Nat} (hn : ∀ b, dQ hp b → C.own' b) : ∀ b, dQ (bg hp i (.sr R v l)) b → C.own' b := by
  rintro b ⟨j, hj⟩
  by_cases e : j = i
  · subst e; rw [bu] at hj; exact hj.elim
  · rw [bT e] at hj; exact hn b ⟨j, hj⟩
theorem SH.OI (h : SH w M K w hp) (i : Nat) (ho : eY R w C.own' (fun b => M b ∨ C.own' b) v l) (hn : ∀ b, dQ hp b → C.own' b) : SH w M K w (bg hp i (.sr R v l)) :=
  h.know i (fun _ h => h) (ho.sub (fun b hb _ => hn b hb) (fun b hb _ => hb.imp id (hn b)))
theorem OJ {i : Nat} (hi : hp i = C) : ∀ b, (M b ∨ rest hp i b) ∨ C.own' b → SH.A M hp b := by
  rintro b ((hb | hb) | hb)
  · exact .inl hb
  · exact .inr (ib hb)
  · exact .inr ⟨i, by rw [hi]; exact hb⟩
theorem SH.Sz (h : SH w0 M K w hp) (i j : Nat) (hij : i ≠ j) (hj : hp j = .own R E v l) (hi : hp i = C) : eY R w C.own' (fun b => (M b ∨ rest hp i b) ∨ C.own' b) v l :=
  ((h.fD j hj).Yw (B := C.own') (fun b hb hc => h.apart i j hij b (by rw [hi]; exact hc) (by rw [hj]; exact hb))).sub (fun _ h _ => h) (fun b hb _ => OJ hi b hb)
theorem SH.Rc (h : SH w0 M K w hp) (i j : Nat) (hj : hp j = .sr R v l) (hi : hp i = C) : eY R w C.own' (fun b => (M b ∨ rest hp i b) ∨ C.own' b) v l :=
  (h.Mv j hj).sub (fun b hb _ => ⟨i, by rw [hi]; exact hb⟩) (fun b hb _ => OJ hi b hb)
end
def Bl (s : Str) : Option (List Str) := gD (s.length < 4294967281 ∧ (s.all fun b => decide (b.toNat < 128)) = true ∧ (Lib.fields s).length ≤ 4294967281) (some (Lib.fields s))
theorem OL {P : Program} {f : FuncId} {E : TypeId} {g q : Nat} {w0 : World} {M : BS} (hc : ∀ (s : ByteArray) (w : World), s.size < 4294967281 → (∀ (j : Nat) b, s.data.toList[j]? = some b → b.toNat < 128) → Lib.TabIs P w "strings.asciiSpace" .u8 Lib.asciiSpaceTab →
    Calls P f #[.string s] w fun e w' => e = .returned (.slice (some ⟨w.heap.size, 0, none⟩) (Lib.fields s.data.toList).length (Lib.fields s.data.toList).length) ∧ w' = w.alloc (.cells ((Lib.fields s.data.toList).map fun l => Value.string ⟨l.toArray⟩).toArray E))
    (hq : P.globalNamed "strings.asciiSpace" = some q) (hM : ∀ b, M b → b < w0.heap.size) (hT : sM P g w0) {s : Str} {r : List Str} (hs : Bl s = some r) : Calls P f #[aN s] w0 (fun e w' => Grow w0 w' ∧ ∃ u, e = .returned u ∧ eB l8 w' M u r) := by
  obtain ⟨⟨h1, h2, h3⟩, hs⟩ := aW hs
  cases hs
  refine (hc ⟨s.toArray⟩ w0 (by rw [mZ]; exact h1) (fun j b hb => ?_) (hT.asc q hq)).mono ?_
  · have := List.all_eq_true.1 h2 b (List.mem_of_getElem? (by simpa using hb))
    simpa using this
  · rintro e w' ⟨rfl, rfl⟩
    refine ⟨Grow.alloc _ _, _, rfl, ?_⟩
    have := LP (E := E) (l := (Lib.fields s).map fun l => (⟨l.toArray⟩ : ByteArray)) (cap := (Lib.fields s).length) (cells := ((Lib.fields s).map fun l => Value.string ⟨l.toArray⟩).toArray) w0 hM (by rw [List.length_map]; exact Nat.le_refl _) (by unfold maxLen; omega) (fun j hj => by simp)
    rw [List.length_map, List.map_map] at this
    have e : (List.map (((fun x => x.data.toList) : ByteArray → Str) ∘ fun l => ⟨l.toArray⟩) (Lib.fields s)) = Lib.fields s := by simp [Function.comp_def]
    simpa [Function.comp_def] using this
end Go.LX
namespace Go.LX
open Go.RowKit Go.Proofs Go.ChangeShapes
def z8 (b o : Nat) (r : Nat × Nat × Nat) : Bool := Nat.beq r.1 b && (Nat.ble r.2.1 o && Nat.blt o (r.2.1 + r.2.2))
def Cn (b o : Nat) : List (Nat × Nat × Nat) → List (Nat × Nat × Nat)
  | [] => [(b, o, 1)]
  | (c, s, l) :: r => bif Nat.beq c b && Nat.beq (o + 1) s then (b, o, l + 1) :: r else (b, o, 1) :: (c, s, l) :: r
def G6 : List MemPlace → Option (List (Nat × Nat × Nat))
  | [] => some []
  | .cell b o :: r => (G6 r).bind fun rs => bif rs.any (z8 b o) then none else some (Cn b o rs)
  | _ :: _ => none
theorem Km {b o c q : Nat} {rs : List (Nat × Nat × Nat)} (h : rs.any (z8 c q) = true) : (Cn b o rs).any (z8 c q) = true := by
  cases rs with
  | nil => cases h
  | cons r rs =>
    obtain ⟨d, s, l⟩ := r
    have e : Cn b o ((d, s, l) :: rs) = bif Nat.beq d b && Nat.beq (o + 1) s then (b, o, l + 1) :: rs else (b, o, 1) :: (d, s, l) :: rs := rfl
    rw [e]
    cases hc : (Nat.beq d b && Nat.beq (o + 1) s) with
    | false => rw [cond_false, List.any_cons, h, Bool.or_true]
    | true =>
      rw [cond_true]
      simp only [Bool.and_eq_true, Nat.beq_eq] at hc
      obtain ⟨rfl, rfl⟩ := hc
      rw [List.any_cons] at h ⊢
      rcases Bool.or_eq_true_iff.1 h with h | h
      · unfold z8 at h ⊢
        simp only [Bool.and_eq_true, Nat.beq_eq, Nat.ble_eq, Nat.blt_eq] at h
        have : (Nat.beq d c && (Nat.ble o q && Nat.blt q (o + (l + 1)))) = true := by
          simp only [Bool.and_eq_true, Nat.beq_eq, Nat.ble_eq, Nat.blt_eq]; omega
        rw [this, Bool.true_or]
      · rw [h, Bool.or_true]
theorem Kn {b o : Nat} {rs : List (Nat × Nat × Nat)} : (Cn b o rs).any (z8 b o) = true := by
  cases rs with
  | nil => simp [Cn, z8]
  | cons r rs =>
    obtain ⟨d, s, l⟩ := r
    have e : Cn b o ((d, s, l) :: rs) = bif Nat.beq d b && Nat.beq (o + 1) s then (b, o, l + 1) :: rs else (b, o, 1) :: (d, s, l) :: rs := rfl
    rw [e]
    cases (Nat.beq d b && Nat.beq (o + 1) s) with
    | false => simp [z8]
    | true => simp [z8]
theorem Bn : ∀ {ps : List MemPlace} {rs : List (Nat × Nat × Nat)}, G6 ps = some rs → ps.Nodup ∧ ∀ b o, MemPlace.cell b o ∈ ps → rs.any (z8 b o) = true
  | [], rs, h => ⟨List.nodup_nil, fun _ _ hm => by cases hm⟩
  | .cell b o :: r, rs, h => by
    unfold G6 at h
    obtain ⟨q, hq, h⟩ := Option.bind_eq_some_iff.1 h
    obtain ⟨h1, h2⟩ := Bn hq
    cases hc : q.any (z8 b o) with
    | true => rw [hc] at h; cases h
    | false =>
      rw [hc, cond_false] at h
      cases h
      refine ⟨List.nodup_cons.2 ⟨fun hm => (by rw [h2 b o hm] at hc; cases hc), h1⟩, fun c p hm => ?_⟩
      rcases List.mem_cons.1 hm with e | hm
      · cases e; exact Kn
      · exact Km (h2 c p hm)
  | .map _ :: _, rs, h => by cases h
theorem Du {P : Program} {w : World} {l : List (String × DataW Unit)} (fuel : Nat) (h : (DataW.laidRun P w fuel (l.map (·.1))).map (·.1) = some l)
    (hr : (DataW.laidRun P w fuel (l.map (·.1))).map (fun x => (G6 x.2).isSome && laidRowsB P w x.2) = some true) : laidMet P l w := by
  cases hx : DataW.laidRun P w fuel (l.map (·.1)) with
  | none => simp [hx] at h
  | some x =>
    obtain ⟨l', ps⟩ := x
    simp only [hx, Option.map_some, Option.some.injEq] at h hr
    subst h
    simp only [Bool.and_eq_true] at hr
    obtain ⟨rs, hrs⟩ := Option.isSome_iff_exists.1 hr.1
    exact laidMet_of_run fuel hx (decide_eq_true (Bn hrs).1) hr.2
end Go.LX
namespace Go.LX
structure cK where
  at_ : Int
  ok : Bool
deriving DecidableEq
end Go.LX
namespace Go.LX
open Go.RowKit Go.Proofs
section
variable {α β : Type} {N : Dr α β} {R : iR β} {E Es T : TypeId} {w0 w w' : World} {M K A : BS} {hp : Nat → Chunk} {v u u' : Value} {us Q6 : List Value} {L L' : List α} {ss ss' : List (List β)} {s : List β} {x y : α} {k : Nat} {ho ho' : Nat → Prop} {C : Chunk}
theorem De {γ : Type} (P : Nat → γ → Prop) : ∀ (n : Nat), (∀ i, i < n → ∃ u, P i u) → ∃ us : List γ, us.length = n ∧ ∀ i u, us[i]? = some u → P i u
  | 0, _ => ⟨[], rfl, fun i u h => by cases h⟩
  | n + 1, h => by
    obtain ⟨us, h1, h2⟩ := De P n (fun i hi => h i (by omega))
    obtain ⟨u, hu⟩ := h n (by omega)
    refine ⟨us ++ [u], by simp [h1], fun i z hz => ?_⟩
    rw [List.getElem?_append] at hz
    split at hz
    · exact h2 i z hz
    · rename_i hl
      have : i - us.length = 0 := by
        rcases Nat.eq_zero_or_pos (i - us.length) with h0 | h0
        · exact h0
        · rw [List.getElem?_eq_none (by simp; omega)] at hz; cases hz
      rw [this] at hz
      cases hz
      obtain rfl : i = n := by omega
      exact hu
def hge (k : Nat) : Nat → Prop := fun i => k ≤ i
def Bo {β : Type} (R : iR β) (k : Nat) (us : List Value) (ss : List (List β)) : Vl where
  own := BE
  P w A := ∀ i u s, k ≤ i → us[i]? = some u → ss[i]? = some s → eB R w A u s
  lt := fun _ h => h.elim
  go := fun h hk hK hKo hA i u s hi hu hs => eB.go (h i u s hi hu hs) hk hK (fun b hb hl => (hA b hb hl).elim id (fun h => h.elim))
theorem SH.VX (h : SH w0 M K w hp) (j : Nat) (ho' : Nat → Prop) (hj : hp j = .gZ (dM R E ho us ss)) (h' : ∀ i, ho i ↔ ho' i) : SH w0 M K w (bg hp j (.gZ (dM R E ho' us ss))) := by
  have e : ho = ho' := funext fun i => propext (h' i)
  subst e
  exact h.zt (S' := dM R E ho us ss) j hj (h.IV j hj) (aO.refl _ _) (fun b hb _ => hb)
theorem SH.thaw {R' : iR α} (h : SH w0 M K w hp) (i j q : Nat) (hi : hp i = .own R' E v L) (hij : i ≠ j) (hiq : i ≠ q) (hjq : j ≠ q) (hsz : R'.sz = N.sz) (op : ∀ w A cs x, R'.rd w A cs x → ∃ u, cs = N.enc x u ∧ eB R w A u (N.sub x)) :
    ∃ us, us.length = L.length ∧ SH w0 M K w (bg (bg (bg hp i (.own N.raw E v (L.zip us))) j (.gZ (dM R Es (hge 0) us (L.map N.sub)))) q (.gZ (Bo R 0 us (L.map N.sub)))) := by
  have ho := h.fD i hi
  have ho2 := ho
  obtain ⟨xs, h1, h2⟩ := ho
  obtain ⟨us, hl, hus⟩ := De (fun i u => ∃ hi : i < L.length, (xs.drop (i * R'.sz)).take R'.sz = N.enc L[i] u ∧ eB R w (fun b => SH.A M hp b ∨ ob v b) u (N.sub L[i])) L.length (fun i hi => by
    obtain ⟨u, e1, e2⟩ := op _ _ _ _ (h2 i hi)
    exact ⟨u, hi, e1, e2⟩)
  refine ⟨us, hl, ?_⟩
  have s1 : SH w0 M K w (bg hp i (.own N.raw E v (L.zip us))) := by
    refine h.step i (aO.refl BE w) (fun _ h => h.elim) (fun b hb _ => by rw [hi]; exact hb) ⟨xs, ?_, ?_⟩
    · rw [qI hl]
      show w.ownsRow 0 E N.sz v L.length xs
      rw [← hsz]; exact h1
    · intro q hq
      have hq1 : q < L.length := by rw [qI hl] at hq; exact hq
      have hq2 : q < us.length := by omega
      obtain ⟨_, e1, e2⟩ := hus q us[q] (List.getElem?_eq_getElem hq2)
      refine ⟨?_, ?_⟩
      · show (xs.drop (q * N.sz)).take N.sz = N.enc ((L.zip us)[q]).1 ((L.zip us)[q]).2
        rw [List.getElem_zip, ← hsz]; exact e1
      · rw [List.getElem_zip]; exact e2.one
  have hnone : ∀ b, ¬ vG (hge 0) us b := fun b ⟨i, u, _, hn, _⟩ => hn (Nat.zero_le i)
  have s2 : SH w0 M K w (bg (bg hp i (.own N.raw E v (L.zip us))) j (.gZ (dM R Es (hge 0) us (L.map N.sub)))) :=
    s1.know j (c := .gZ (dM R Es (hge 0) us (L.map N.sub))) (fun b hb => hnone b hb) ⟨by rw [List.length_map]; exact hl, fun i u s _ _ hn => absurd (Nat.zero_le i) hn, fun i j u v _ hn => absurd (Nat.zero_le i) hn⟩
  refine s2.know q (c := .gZ (Bo R 0 us (L.map N.sub))) (fun b hb => hb) ?_
  intro p u s _ hu hs
  obtain ⟨hp', e1, e2⟩ := hus p u hu
  rw [List.getElem?_map, List.getElem?_eq_getElem hp'] at hs
  cases hs
  have hsub : ∀ b, (M b ∨ dQ (bg (bg hp i (.own N.raw E v (L.zip us))) j (.gZ (dM R Es (hge 0) us (L.map N.sub)))) b) → SH.A M hp b ∨ ob v b := by
    rintro b (hb | ⟨c, hc⟩)
    · exact .inl (.inl hb)
    · by_cases e : c = j
      · subst e; rw [bu] at hc; exact absurd hc (hnone b)
      · rw [bT e] at hc
        by_cases e3 : c = i
        · subst e3; rw [bu] at hc; exact .inr hc
        · rw [bT e3] at hc; exact .inl (.inr ⟨c, hc⟩)
  exact e2.sub (fun b hb _ => hsub b hb) (fun b hb _ => hsub b hb)
theorem SH.VY (h : SH w0 M K w hp) (q : Nat) (hq : hp q = .gZ (Bo R k us (L.map N.sub))) (hl : us.length = L.length) (hx : L[k]? = some x) : ∃ u, us[k]? = some u ∧ eB R w (SH.A M hp) u (N.sub x) := by
  obtain ⟨u, hu⟩ := Sw hl hx
  exact ⟨u, hu, h.OC q hq k u _ (Nat.le_refl _) hu (by rw [List.getElem?_map, hx]; rfl)⟩
theorem SH.Re (h : SH w0 M K w hp) (q : Nat) (hq : hp q = .gZ (Bo R k us ss)) : SH w0 M K w (bg hp q (.gZ (Bo R (k + 1) (us.set k u) (ss.set k s)))) := by
  have h0 := h.OC q hq
  refine h.zt (S' := Bo R (k + 1) (us.set k u) (ss.set k s)) q hq ?_ (aO.refl _ _) (fun b hb _ => hb)
  intro i z t hi hz ht
  rw [List.getElem?_set_ne (by omega)] at hz ht
  exact h0 i z t (by omega) hz ht
theorem SH.Rf (h : SH w0 M K w hp) (j q m : Nat) (y : α) (hj : hp j = .gZ (dM R Es (hge k) us (L.map N.sub))) (hq : hp q = .gZ (Bo R k us (L.map N.sub))) (hm : hp m = .own R Es u s) (hjq : j ≠ q) (hjm : j ≠ m) (hqm : q ≠ m) (hx : L[k]? = some x) (hu0 : us[k]? = some u') (hy : N.sub y = s) :
    SH w0 M K w (bg (bg (bg (bg (bg hp q (.gZ (Bo R (k + 1) (us.set k u) ((L.map N.sub).set k s)))) j (.gZ (dM R Es (hge k) (us.set k u) ((L.map N.sub).set k s)))) m .no) j (.gZ (dM R Es (hge (k + 1)) (us.set k u) (((L.map N.sub).set k s).set k s)))) j (.gZ (dM R Es (hge (k + 1)) (us.set k u) ((L.set k y).map N.sub)))) := by
  have h1 := h.Re (u := u) (s := s) q hq
  have hl := h.pz j hj
  have h2 := h1.Sv (Q6 := us.set k u) (ss' := (L.map N.sub).set k s) j (by rw [bT hjq]; exact hj) (by simp [hl]) (fun i hi => by
    have : k ≠ i := fun e => hi (by subst e; exact Nat.le_refl _)
    rw [List.getElem?_set_ne this, List.getElem?_set_ne this]
    exact ⟨rfl, rfl⟩)
  have hkl := Ei hx
  have h3 := h2.Eh j m (k := k) (u := u) (s := s) (bu _ _ _) (by rw [bT (fun e => hjm e.symm), bT (fun e => hqm e.symm)]; exact hm) hjm (MI hu0) (Nat.le_refl k) (hge (k + 1)) (fun i => ⟨fun hi => by
    rcases Nat.eq_or_lt_of_le (show k ≤ i from hi) with e | e
    · exact .inr e.symm
    · exact .inl e, fun hi => hi.elim (fun hi => Nat.le_of_succ_le hi) (fun e => by subst e; exact Nat.le_refl _)⟩) (fun hi => absurd hi (Nat.not_succ_le_self k))
  have e : ((L.map N.sub).set k s).set k s = (L.set k y).map N.sub := by rw [List.set_set, List.map_set, hy]
  have h4 := h3.Sv (Q6 := us.set k u) (ss' := (L.set k y).map N.sub) j (bu _ _ _) (by simp [hl]) (fun i hi => ⟨rfl, by rw [e]⟩)
  exact h4
theorem SH.OM (h : SH w0 M K w hp) (j : Nat) (hj : hp j = .gZ (dM R Es (hge k) us (L.map N.sub))) (hk : L.length ≤ k) : SH w0 M K w (bg hp j (.gZ (dM R Es hn us (L.map N.sub)))) := by
  have hl := h.pz j hj
  have hf := h.IV j hj
  have key : ∀ i (z : Value), us[i]? = some z → ¬ hge k i := fun i z hz hi => by
    have := Ei hz
    have : k ≤ i := hi
    omega
  refine h.zt (S' := dM R Es hn us (L.map N.sub)) j hj ⟨hf.1, fun i z t hz ht _ => ?_, fun i j z v hij _ _ hz hv => hf.2.2 i j z v hij (key i z hz) (key j v hv) hz hv⟩ (aO.refl _ _) (fun b ⟨i, z, h1, _, h3⟩ _ => ⟨i, z, h1, key i z h1, h3⟩)
  refine (hf.2.1 i z t hz ht (key i z hz)).go (aO.refl BE w) (fun _ h => h.elim) (fun _ h => h.elim) (fun b hb _ => ?_)
  rcases hb with hb | ⟨i, z, h1, _, h3⟩
  · exact .inl (.inl hb)
  · exact .inl (.inr ⟨i, z, h1, key i z h1, h3⟩)
def hmv (mv : List Int) : Nat → Prop := fun i => (i : Int) ∈ mv
theorem SH.TN (h : SH w0 M K w hp) (j : Nat) (hj : hp j = .gZ (dM R Es hn us ss)) : SH w0 M K w (bg hp j (.gZ (dM R Es (hmv []) us ss))) :=
  h.VX j (hmv []) hj (fun i => ⟨fun h => h.elim, fun h => by cases h⟩)
theorem SH.TP {mv : List Int} {kk : Int} (h : SH w0 M K w hp) (j m : Nat) (hj : hp j = .gZ (dM R Es (hmv mv) us (L.map N.sub))) (hm : hp m = .no) (hjm : j ≠ m) (h0 : 0 ≤ kk) (hk : L[kk.toNat]? = some x) (TQ : kk ∉ mv) :
    ∃ u, us[kk.toNat]? = some u ∧ SH w0 M K w (bg (bg hp j (.gZ (dM R Es (hmv (mv ++ [kk])) us (L.map N.sub)))) m (.own R Es u (N.sub x))) := by
  have hl := h.pz j hj
  obtain ⟨u, hu⟩ := Sw hl hk
  have e : ((kk.toNat : Nat) : Int) = kk := Int.toNat_of_nonneg h0
  refine ⟨u, hu, h.LQ j m hj hm hjm hu (by rw [List.getElem?_map, hk]; rfl) (fun h => TQ (by rw [← e]; exact h)) (hmv (mv ++ [kk])) (fun i => ?_)⟩
  unfold hmv
  rw [List.mem_append, List.mem_singleton]
  constructor
  · rintro (h | h)
    · exact .inl h
    · exact .inr (by omega)
  · rintro (h | h)
    · exact .inl h
    · exact .inr (by rw [h]; exact e)
theorem SH.IZ (h : SH w0 M K w hp) (i : Nat) (hk : Grow w w') (hf : C.Fy) (hC : C.holds w' (SH.A M hp) C.own') (hn : ∀ b, C.own' b → w.heap.size ≤ b) : SH w0 M K w' (bg hp i C) :=
  h.learn i hk hn (Chunk.re hf hC (fun b hb _ => by
    rcases hb with hb | hb | hb
    · exact .inl (.inl hb)
    · exact .inl (.inr hb)
    · exact .inr hb))
theorem G7 (ho : ∀ b, C.own' b → b < w0.heap.size → BE b) : ∀ b, C.own' b → w0.heap.size ≤ b := fun b hb => Nat.le_of_not_lt (fun hl => ho b hb hl)
theorem Rh {R : iR β} : ∀ (w : World) (A : BS) cs (x : List β), (oN R).rd w A cs x → ∃ u, cs = (iI β).enc x u ∧ eB R w A u ((iI β).sub x) := fun _ _ _ _ h => h
end
theorem Co : ∀ (w : World) (A : BS) cs (x : Frame), eG.rd w A cs x → ∃ u, cs = gN.enc x u ∧ eB bM w A u (gN.sub x) := fun _ _ _ _ h => h
def xD {α : Type} (k : Int) (v : α) : List (Int × α) → List (Int × α)
  | [] => [(k, v)]
  | p :: r => if k = p.1 then (p.1, v) :: r else p :: xD k v r
theorem zw {α : Type} {f : α → Value} {k : Int} {v : α} : ∀ (l : List (Int × α)), D8 (l.map fun p => (p.1, f p.2)) k (f v) = (xD k v l).map fun p => (p.1, f p.2)
  | [] => rfl
  | p :: r => by
    show (if k = p.1 then (p.1, f v) :: _ else (p.1, f p.2) :: D8 _ k (f v)) = _
    unfold xD
    split
    · rfl
    · rw [zw r]; rfl
theorem uq.keep {w w' : World} {K : BS} {b : Nat} {eD : List (Int × Value)} (h : uq w b eD) (hk : aO K w w') (hn : ¬ K b) : uq w' b eD := by
  obtain ⟨es, c, h1, h2, h3⟩ := h
  exact ⟨es, c, hk.blk h1 hn, h2, h3⟩
section
variable {P : Program} {w : World} {ρ : Operand → Value} {d : Option Nat} {ty : TypeId} {pos : String} {af : Array Edge} {g : Option (Nat × Bool)} {T : TypeId}
theorem TR {α : Type} {f : α → Value} {zz : α} {z : Value} {x y : Operand} {b : Nat} {k : Int} (l : List (Int × α)) (hb : uq w b (l.map fun p => (p.1, f p.2))) (hT : MapOf P T z) (hx : ρ x = .map (some b)) (hy : ρ y = .int .i64 k) (hz : z = f zz) :
    (execOp ρ ⟨d, .lookup T x y false, ty, pos, af, g⟩).run P w = .ok (.value (f ((lk k l).getD zz))) w := by
  have := IM (d := d) (ty := ty) (pos := pos) (af := af) (g := g) hT hx hy hb
  rw [hz, DK] at this
  exact this
end
end Go.LX
namespace Go.LX
open Go.RowKit Go.Proofs Go.MapKept
section
variable {P : Program} {ops : Array Oper} {Q : Exit → Act → World → Prop} {n : Nat} {env : Nat → Value} {w w' w0 : World} {M K : BS} {hp : Nat → Chunk} {rest : List Oper}
  {d : Option Nat} {op : Op} {ty : TypeId} {pos : String} {af : Array Edge} {v : Value} {g : Option (Nat × Bool)} {T : TypeId} {ρ : Operand → Value}
theorem MJ (zs : List Value) (m q : Nat) (hq : q < m) : ((madeCells zs.toArray (m * zs.length)).toList.drop (q * zs.length)).take zs.length = zs := by
  apply List.ext_getElem?
  intro i
  rw [List.getElem?_take]
  split
  · rename_i hi
    rw [List.getElem?_drop]
    have h1 : q * zs.length + i < m * zs.length := by
      have := Nat.mul_le_mul_right zs.length (show q + 1 ≤ m from hq)
      rw [Nat.succ_mul] at this
      omega
    have h2 : (q * zs.length + i) % zs.length = i := by rw [Nat.mul_comm, Nat.mul_add_mod]; exact Nat.mod_eq_of_lt hi
    simp [madeCells, h1, h2, hi]
  · rename_i hi
    rw [List.getElem?_eq_none (by omega)]
theorem MK {α : Type} {R : iR α} {E : TypeId} {bytes sz : Nat} {k : Int} {zs : List Value} {x y : Operand} {a : α} (h : SH w0 M K w hp) (i : Nat) (hT : mh P T E sz bytes) (hz : wB P E zs) (hs : R.sz = sz) (hb : 0 < bytes) (hx : ev n env x = .int .i64 k) (hy : ev n env y = .int .i64 k)
    (hk : 0 ≤ k ∧ k * bytes ≤ 140737488355328) (hl : zs.length = sz) (ha : ∀ w A, R.rd w A zs a)
    (kk : ∀ w' u, SH w0 M K w' (bg hp i (.own R E u (List.replicate k.toNat a))) → Grow w w' → (∀ b, ob u b → w.heap.size ≤ b) → WL P ops Q rest n (iU env d u) w') :
    WL P ops Q (⟨d, .makeSlice T x y, ty, pos, af, none⟩ :: rest) n env w := by
  obtain ⟨h0, h1⟩ := hk
  obtain ⟨m, rfl⟩ := Int.eq_ofNat_of_zero_le h0
  obtain ⟨j, z', hi, hz', hsz, hby, hzs⟩ := hT.info
  have hzz := hz.info
  rw [hi] at hzz
  simp only [Option.map_some, Option.some.injEq, Prod.mk.injEq] at hzz
  have hle : m ≤ m * bytes := Nat.le_mul_of_pos_right _ hb
  have h1' : m * bytes ≤ 140737488355328 := by
    have : ((m * bytes : Nat) : Int) ≤ 140737488355328 := by rw [Int.natCast_mul]; exact h1
    omega
  obtain ⟨w', hr, ho, hg⟩ := run_make_full (P := P) w 0 T E j _ sz hT.desc hi hzz.1 hsz .i64 .i64 m (by rw [hby, Nat.mul_comm]; omega) (by unfold maxLen; omega) (Nat.zero_le _)
  have hg' : Grow w w' := (yg (v := .slice none 0 0) hg).weaken (fun _ h _ => h.elim)
  have hrun : (execOp (ev n env) ⟨d, .makeSlice T x y, ty, pos, af, none⟩).run P w = .ok (.value (.slice (some ⟨w.heap.size, 0, none⟩) m m)) w' := by
    simp only [execOp, Sem.run_bind, Sem.run_pure, Result.andThen_ok, hx, hy, hr]
  have hnew : ∀ b, ob (.slice (some ⟨w.heap.size, 0, none⟩) m m) b → w.heap.size ≤ b := fun b hb => by
    have : b = w.heap.size := hb
    omega
  refine aa hrun (kk w' _ (h.jv i hg' ⟨(madeCells zs.toArray (m * sz)).toList, ?_, ?_⟩ hnew) hg' hnew)
  · rw [hs]
    rw [List.length_replicate]
    exact ho
  · intro q hq
    simp only [List.length_replicate] at hq
    have hq' : q < m := hq
    have e : ((madeCells zs.toArray (m * sz)).toList.drop (q * R.sz)).take R.sz = zs := by rw [hs, ← hl]; exact MJ zs m q hq'
    rw [e]
    simp only [List.getElem_replicate]
    exact ha _ _
end
end Go.LX
namespace Go.LX
open Go.RowKit Go.Proofs
section
variable {α β : Type} {N : Dr α β} {R : iR β} {E Es T : TypeId} {w0 w w' : World} {M K A : BS} {hp : Nat → Chunk} {u u' : Value} {us : List Value} {L : List α} {s : List β} {x : α} {k : Nat}
theorem F7 {γ : Type} {l : List γ} {z : γ} {i : Int} (hi : i = (k : Int)) (h : l[i.toNat]? = some z) : l[k]? = some z := by subst hi; simpa using h
theorem SA {γ : Type} {l : List γ} {z : γ} {i : Int} (hi : i = (k : Int)) (h : l[k]? = some z) : l[i.toNat]? = some z := by subst hi; simpa using h
theorem OO {i : Int} (hi : i = (k : Int)) : i.toNat = k := by subst hi; simp
theorem SH.I1 (h : SH w0 M K w hp) (j q m : Nat) (hj : hp j = .gZ (dM R Es (hge k) us (L.map N.sub))) (hq : hp q = .gZ (Bo R k us (L.map N.sub))) (hm : hp m = .own R Es u s) (hjq : j ≠ q) (hjm : j ≠ m) (hqm : q ≠ m) (hx : L[k]? = some x) (hu0 : us[k]? = some u') (hy : N.sub x = s) :
    SH w0 M K w (bg (bg (bg (bg (bg hp q (.gZ (Bo R (k + 1) (us.set k u) (L.map N.sub)))) j (.gZ (dM R Es (hge k) (us.set k u) (L.map N.sub)))) m .no) j (.gZ (dM R Es (hge (k + 1)) (us.set k u) (L.map N.sub)))) j (.gZ (dM R Es (hge (k + 1)) (us.set k u) (L.map N.sub)))) := by
  have h1 := h.Rf (y := x) j q m hj hq hm hjq hjm hqm hx hu0 hy
  have e : (L.map N.sub).set k s = L.map N.sub := by rw [← hy, ← List.map_set, yE hx]
  rw [e, e, yE hx] at h1
  exact h1
end
theorem wD {α : Type} {b : Nat} {a r : List α} (h : clone b a = some r) : a = r := by
  unfold clone at h
  obtain ⟨_, h⟩ := aW h
  exact Option.some.inj h
theorem El {α β : Type} {N : Dr α β} {w : World} {B A : BS} {v : Value} {L : List α} {us : List Value} (h : eY N.raw w B A v (L.zip us)) (hl : us.length = L.length) : L.length ≤ 9223372036854775807 := by
  have := h.bG
  rwa [qI hl] at this
end Go.LX
namespace Go.LX
open Go.RowKit Go.Proofs
section
variable {α β : Type} {N : Dr α β} {R : iR β} {E Es T : TypeId} {w0 w w' : World} {M K A : BS} {hp : Nat → Chunk} {us : List Value} {L : List α} {x : α} {k : Nat}
theorem SH.DL (h : SH w0 M K w hp) (j m : Nat) (s : List β) (hj : hp j = .gZ (dM R Es hn us (L.map N.sub))) (hm : hp m = .no) (hjm : j ≠ m) (hk : L[k]? = some x) (hs : N.sub x = s) :
    ∃ u, us[k]? = some u ∧ SH w0 M K w (bg (bg hp j (.gZ (dM R Es (hat k) us (L.map N.sub)))) m (.own R Es u s)) := by subst hs; exact h.TI j m hj hm hjm hk
theorem SH.Ri {mv : List Int} {kk : Int} (h : SH w0 M K w hp) (j m : Nat) (s : List β) (hj : hp j = .gZ (dM R Es (hmv mv) us (L.map N.sub))) (hm : hp m = .no) (hjm : j ≠ m) (h0 : 0 ≤ kk) (hk : L[kk.toNat]? = some x) (TQ : kk ∉ mv) (hs : N.sub x = s) :
    ∃ u, us[kk.toNat]? = some u ∧ SH w0 M K w (bg (bg hp j (.gZ (dM R Es (hmv (mv ++ [kk])) us (L.map N.sub)))) m (.own R Es u s)) := by subst hs; exact h.TP j m hj hm hjm h0 hk TQ
theorem SH.OP (h : SH w0 M K w hp) (q : Nat) (s : List β) (hq : hp q = .gZ (Bo R k us (L.map N.sub))) (hl : us.length = L.length) (hx : L[k]? = some x) (hs : N.sub x = s) : ∃ u, us[k]? = some u ∧ eB R w (SH.A M hp) u s := by subst hs; exact h.VY q hq hl hx
end
end Go.LX
namespace Go.LX
open Go.RowKit Go.Proofs
def Chunk.flat : Chunk → Prop
  | .no => True
  | .own R _ _ _ => ∀ w A A' cs x, R.rd w A cs x → R.rd w A' cs x
  | .two a b => a.flat ∧ b.flat
  | .gZ S => ∀ w A A', S.P w A → S.P w A'
  | _ => False
theorem dC.flat {α : Type} {R : iR α} {E : TypeId} {w : World} {A A' : BS} {v : Value} {l : List α} (hR : ∀ w A A' cs x, R.rd w A cs x → R.rd w A' cs x) (h : dC R E w A v l) : dC R E w A' v l := by
  obtain ⟨xs, h1, h2⟩ := h
  exact ⟨xs, h1, fun i hi => hR _ _ _ _ _ (h2 i hi)⟩
theorem Chunk.flatten {c : Chunk} {w : World} {M O M' O' : BS} (hf : c.flat) (h : c.holds w M O) : c.holds w M' O' := by
  induction c with
  | no => trivial
  | own R E v l => exact dC.flat hf h
  | two a b ha hb => exact ⟨ha hf.1 h.1, hb hf.2 h.2.1, h.2.2⟩
  | gZ S => exact hf _ _ _ h
  | _ => exact hf.elim
theorem eY.TS {α : Type} {R : iR α} {w : World} {B A : BS} {v : Value} {l : List α} (h : eY R w B A v l) : eY R w BE BE v l :=
  eY.go h (aO.refl BE w) (fun _ h => h.elim) (fun _ h => h.elim) (fun _ h => h.elim) (fun _ h => h.elim)
section
variable {α β : Type} {N : Dr α β} {R : iR β} {E Es T : TypeId} {w0 w w' : World} {M K A : BS} {hp : Nat → Chunk} {v u u' : Value} {us Q6 : List Value} {L L' : List α}
theorem SH.Cq {R' : iR α} (h : SH w0 M K w hp) (i j : Nat) (hi : hp i = .own N.raw E v (L.zip us)) (hj : hp j = .gZ (dM R Es hn us (L.map N.sub))) (hij : i ≠ j) (hsz : R'.sz = N.sz) (br : ∀ w A x u, eB R w A u (N.sub x) → R'.rd w A (N.enc x u) x) : eY R' w BE BE v L :=
  eY.TS ((h.OD i j hi hj hij hsz br).fq i (bu _ _ _))
end
section
variable {α β : Type} {R : iR α} {E : TypeId} {w0 w : World} {M K : BS} {hp : Nat → Chunk} {v : Value} {l : List α} {C : Chunk}
theorem SH.OQ (h : SH w0 M K w hp) (i j : Nat) (hij : i ≠ j) (hj : hp j = .own R E v l) (hi : hp i = C) : eB R w (fun b => BE b ∨ C.own' b) v l :=
  (h.Sz i j hij hj hi).sub (fun b hb _ => hb.elim (fun e => e.elim) id) (fun b hb _ => hb.elim (fun e => e.elim) .inr)
theorem SB {C : Chunk} : ∀ b, C.own' b → ¬ BE b := fun _ _ h => h
end
end Go.LX
namespace Go.LX
structure ig where
  l : List Int
  bad : Bool
end Go.LX
namespace Go.Proofs
set_option maxHeartbeats 1000000 in
set_option maxRecDepth 100000 in
theorem Tryz.stringslite_IndexByte (s : ByteArray) (c : Int) (w : World) :
    Calls Tryz.prog 169 #[.string s, .int .u8 c] w fun e w' => e = .returned (.int .i64 (Lib.indexByte s.data.toList c.toNat.toUInt8)) ∧ w' = w := by
  go_enter Tryz.func169, Tryz.ntmps169
  go_wp2
  rw [run_callFunc_extern Tryz.func181 (by kernel_rfl) (by kernel_rfl) (by kernel_rfl) (e := Extern.BytealgIndexByte.indexByte) (by kernel_rfl), Lib.run_indexByteString]
  simp only [Result.andThen]
  rw [Oper.upon_value]
  go_wp2
  go_ret
  exact ⟨rfl, rfl⟩
end Go.Proofs
namespace Go.Proofs
set_option maxHeartbeats 2000000 in
set_option maxRecDepth 100000 in
theorem Tryz.stringslite_Index_one (s : ByteArray) (c : UInt8) (w : World) :
    Calls Tryz.prog 157 #[.string s, .string ⟨#[c]⟩] w fun e w' => e = .returned (.int .i64 (Lib.indexByte s.data.toList c)) ∧ w' = w := by
  go_enter Tryz.func157, Tryz.ntmps157
  go_wp2_with (go_at_call 169; refine (Tryz.stringslite_IndexByte _ _ _).mono ?_; rintro e w' ⟨rfl, rfl⟩)
  · have h : ([c] == s.toList) = true := by assumption
    go_ret
    refine ⟨?_, rfl⟩
    have e : s.data.toList = [c] := by rw [← Lib.toList_data]; exact (beq_iff_eq.1 h).symm
    rw [e]
    simp [Lib.indexByte]
  · go_ret
    exact ⟨rfl, rfl⟩
end Go.Proofs
namespace Go.Proofs
set_option maxHeartbeats 1000000 in
theorem Tryz.strings_Index_one (s : ByteArray) (c : UInt8) (w : World) :
    Calls Tryz.prog 135 #[.string s, .string ⟨#[c]⟩] w fun e w' => e = .returned (.int .i64 (Lib.indexByte s.data.toList c)) ∧ w' = w := by
  go_enter Tryz.func135, Tryz.ntmps135
  go_wp2_with (go_at_call 157; refine (Tryz.stringslite_Index_one _ _ _).mono ?_; rintro e w' ⟨rfl, rfl⟩)
  go_ret
  exact ⟨rfl, rfl⟩
end Go.Proofs
namespace Go.Proofs
set_option maxHeartbeats 1000000 in
theorem Tryz.strings_Contains_one (s : ByteArray) (c : UInt8) (w : World) :
    Calls Tryz.prog 145 #[.string s, .string ⟨#[c]⟩] w fun e w' => e = .returned (.bool (decide (0 ≤ Lib.indexByte s.data.toList c))) ∧ w' = w := by
  go_enter Tryz.func145, Tryz.ntmps145
  go_wp2_with (go_at_call 135; refine (Tryz.strings_Index_one _ _ _).mono ?_; rintro e w' ⟨rfl, rfl⟩)
  go_ret
  exact ⟨rfl, rfl⟩
end Go.Proofs
namespace Go.Proofs
open Go.Shelf
def Tryz.I4 : Go.Shelf.Ren := ⟨fun | 146 => 101 | 221 => 121 | 268 => 133 | 138 => 134 | 143 => 135 | 195 => 154 | 197 => 155 | 218 => 156 | 219 => 157 | 260 => 168 | 217 => 169 | 225 => 170 | 224 => 171 | 267 => 172 | 266 => 181 | 314 => 182 | n => n, fun | 9 => 9 | 31 => 153 | 3 => 3 | 4 => 4 | 0 => 0 | 105 => 215 | 21 => 21 | 5 => 5 | 46 => 221 | 119 => 182 | 139 => 257 | 138 => 256 | 146 => 258 | 51 => 201 | n => n, fun | 1 => 4 | 3 => 5 | 4 => 6 | n => n⟩
theorem Tryz.Rj : Go.Proofs.Lays.n146 Tryz.prog Tryz.I4 := {
  mixed := by kernel_rfl
  f138 := Tryz.func134.trans (congrArg some (by kernel_rfl))
  f143 := Tryz.func135.trans (congrArg some (by kernel_rfl))
  f146 := Tryz.func101.trans (congrArg some (by kernel_rfl))
  f195 := Tryz.func154.trans (congrArg some (by kernel_rfl))
  f197 := Tryz.func155.trans (congrArg some (by kernel_rfl))
  f217 := Tryz.func169.trans (congrArg some (by kernel_rfl))
  f218 := Tryz.func156.trans (congrArg some (by kernel_rfl))
  f219 := Tryz.func157.trans (congrArg some (by kernel_rfl))
  f221 := Tryz.func121.trans (congrArg some (by kernel_rfl))
  f224 := Tryz.func171.trans (congrArg some (by kernel_rfl))
  f225 := Tryz.func170.trans (congrArg some (by kernel_rfl))
  f260 := Tryz.func168.trans (congrArg some (by kernel_rfl))
  f266 := Tryz.func181.trans (congrArg some (by kernel_rfl))
  f267 := Tryz.func172.trans (congrArg some (by kernel_rfl))
  f268 := Tryz.func133.trans (congrArg some (by kernel_rfl))
  f314 := Tryz.func182.trans (congrArg some (by kernel_rfl))
  t0 := Tryz.underlying0
  a0 := Tryz.isAgg0
  z0 := Tryz.sizeOf0
  v0 := Tryz.zeroValue0
  t3 := Tryz.underlying3
  a3 := Tryz.isAgg3
  z3 := Tryz.sizeOf3
  v3 := Tryz.zeroValue3
  t4 := Tryz.underlying4
  a4 := Tryz.isAgg4
  z4 := Tryz.sizeOf4
  v4 := Tryz.zeroValue4
  t5 := Tryz.underlying5
  a5 := Tryz.isAgg5
  z5 := Tryz.sizeOf5
  v5 := Tryz.zeroValue5
  t9 := Tryz.underlying9
  a9 := Tryz.isAgg9
  z9 := Tryz.sizeOf9
  v9 := Tryz.zeroValue9
  t21 := Tryz.underlying21
  a21 := Tryz.isAgg21
  z21 := Tryz.sizeOf21
  v21 := Tryz.zeroValue21
  t31 := Tryz.underlying153
  a31 := Tryz.isAgg153
  z31 := Tryz.sizeOf153
  v31 := Tryz.zeroValue153
  t46 := Tryz.underlying221
  a46 := Tryz.isAgg221
  z46 := Tryz.sizeOf221
  v46 := Tryz.zeroValue221
  t51 := Tryz.underlying201
  a51 := Tryz.isAgg201
  z51 := Tryz.sizeOf201
  v51 := Tryz.zeroValue201
  t105 := Tryz.underlying215
  a105 := Tryz.isAgg215
  z105 := Tryz.sizeOf215
  v105 := Tryz.zeroValue215
  t119 := Tryz.underlying182
  a119 := Tryz.isAgg182
  z119 := Tryz.sizeOf182
  t138 := Tryz.underlying256
  a138 := Tryz.isAgg256
  z138 := Tryz.sizeOf256
  v138 := Tryz.zeroValue256
  t139 := Tryz.underlying257
  a139 := Tryz.isAgg257
  z139 := Tryz.sizeOf257
  v139 := Tryz.zeroValue257
  t146 := Tryz.underlying258
  a146 := Tryz.isAgg258
  z146 := Tryz.sizeOf258
  v146 := Tryz.zeroValue258
  g1 := by kernel_rfl
  g3 := by kernel_rfl
  g4 := by kernel_rfl }
open Go.RowKit Go.Lib in
theorem Tryz.strings_Split (s sep : ByteArray) (m : Int) (w : World) (hs : s.size < 4294967281) (hm : w.cell? ⟨4, 0, none⟩ = some (.int .i64 m)) (h1 : 1 ≤ sep.size) :
    Calls Tryz.prog 101 #[.string s, .string sep] w fun e w' =>
      e = .returned (.slice (some ⟨w.heap.size, 0, none⟩) (Lib.countB s sep + 1) (Lib.countB s sep + 1)) ∧ w' = w.alloc (.cells ((Lib.splitB sep 0 (Lib.countB s sep) s).map Value.string).toArray 9) := Any.strings_Split Tryz.Rj (by kernel_rfl) s sep m w hs hm h1
def Tryz.G8 : Go.Shelf.Ren := ⟨fun | 172 => 102 | 244 => 122 | 245 => 123 | 247 => 136 | 279 => 137 | 280 => 138 | 281 => 139 | 282 => 140 | 287 => 158 | 316 => 159 | 171 => 125 | 205 => 160 | 321 => 173 | 322 => 174 | 243 => 142 | 246 => 161 | 283 => 175 | 284 => 176 | 285 => 177 | 286 => 178 | 129 => 184 | 317 => 183 | 318 => 185 | 319 => 186 | 320 => 187 | 337 => 188 | 338 => 189 | n => n, fun | 9 => 9 | 3 => 3 | 75 => 156 | 76 => 157 | 4 => 4 | 5 => 5 | 167 => 190 | 37 => 191 | 0 => 0 | 85 => 192 | 2 => 2 | 168 => 194 | 53 => 218 | 175 => 219 | 46 => 221 | 210 => 224 | 127 => 239 | 145 => 244 | 143 => 242 | 21 => 21 | 171 => 245 | 173 => 248 | 212 => 261 | 51 => 201 | 20 => 20 | 213 => 262 | 232 => 265 | 233 => 266 | 80 => 159 | n => n, fun | 15 => 2 | 16 => 3 | 17 => 7 | 18 => 8 | 19 => 9 | n => n⟩
theorem Tryz.Em : Go.Proofs.LaysC.n172 Tryz.prog Tryz.G8 := {
  mixed := by kernel_rfl
  f129 := Tryz.func184.trans (congrArg some (by kernel_rfl))
  f171 := Tryz.func125.trans (congrArg some (by kernel_rfl))
  f172 := Tryz.func102.trans (congrArg some (by kernel_rfl))
  f205 := Tryz.func160.trans (congrArg some (by kernel_rfl))
  f243 := Tryz.func142.trans (congrArg some (by kernel_rfl))
  f244 := Tryz.func122.trans (congrArg some (by kernel_rfl))
  f245 := Tryz.func123.trans (congrArg some (by kernel_rfl))
  f246 := Tryz.func161.trans (congrArg some (by kernel_rfl))
  f247 := Tryz.func136.trans (congrArg some (by kernel_rfl))
  f279 := Tryz.func137.trans (congrArg some (by kernel_rfl))
  f280 := Tryz.func138.trans (congrArg some (by kernel_rfl))
  f281 := Tryz.func139.trans (congrArg some (by kernel_rfl))
  f282 := Tryz.func140.trans (congrArg some (by kernel_rfl))
  f283 := Tryz.func175.trans (congrArg some (by kernel_rfl))
  f284 := Tryz.func176.trans (congrArg some (by kernel_rfl))
  f285 := Tryz.func177.trans (congrArg some (by kernel_rfl))
  f286 := Tryz.func178.trans (congrArg some (by kernel_rfl))
  f287 := Tryz.func158.trans (congrArg some (by kernel_rfl))
  f316 := Tryz.func159.trans (congrArg some (by kernel_rfl))
  f317 := Tryz.func183.trans (congrArg some (by kernel_rfl))
  f318 := Tryz.func185.trans (congrArg some (by kernel_rfl))
  f319 := Tryz.func186.trans (congrArg some (by kernel_rfl))
  f320 := Tryz.func187.trans (congrArg some (by kernel_rfl))
  f321 := Tryz.func173.trans (congrArg some (by kernel_rfl))
  f322 := Tryz.func174.trans (congrArg some (by kernel_rfl))
  f337 := Tryz.func188.trans (congrArg some (by kernel_rfl))
  f338 := Tryz.func189.trans (congrArg some (by kernel_rfl))
  t0 := Tryz.underlying0
  a0 := Tryz.isAgg0
  z0 := Tryz.sizeOf0
  v0 := Tryz.zeroValue0
  t2 := Tryz.underlying2
  a2 := Tryz.isAgg2
  z2 := Tryz.sizeOf2
  v2 := Tryz.zeroValue2
  t3 := Tryz.underlying3
  a3 := Tryz.isAgg3
  z3 := Tryz.sizeOf3
  v3 := Tryz.zeroValue3
  t4 := Tryz.underlying4
  a4 := Tryz.isAgg4
  z4 := Tryz.sizeOf4
  v4 := Tryz.zeroValue4
  t5 := Tryz.underlying5
  a5 := Tryz.isAgg5
  z5 := Tryz.sizeOf5
  v5 := Tryz.zeroValue5
  t9 := Tryz.underlying9
  a9 := Tryz.isAgg9
  z9 := Tryz.sizeOf9
  v9 := Tryz.zeroValue9
  t20 := Tryz.underlying20
  a20 := Tryz.isAgg20
  z20 := Tryz.sizeOf20
  v20 := Tryz.zeroValue20
  t21 := Tryz.underlying21
  a21 := Tryz.isAgg21
  z21 := Tryz.sizeOf21
  v21 := Tryz.zeroValue21
  t37 := Tryz.underlying191
  a37 := Tryz.isAgg191
  z37 := Tryz.sizeOf191
  v37 := Tryz.zeroValue191
  t46 := Tryz.underlying221
  a46 := Tryz.isAgg221
  z46 := Tryz.sizeOf221
  v46 := Tryz.zeroValue221
  t51 := Tryz.underlying201
  a51 := Tryz.isAgg201
  z51 := Tryz.sizeOf201
  v51 := Tryz.zeroValue201
  t53 := Tryz.underlying218
  a53 := Tryz.isAgg218
  z53 := Tryz.sizeOf218
  v53 := Tryz.zeroValue218
  t75 := Tryz.underlying156
  a75 := Tryz.isAgg156
  z75 := Tryz.sizeOf156
  v75 := Tryz.zeroValue156
  t76 := Tryz.underlying157
  a76 := Tryz.isAgg157
  z76 := Tryz.sizeOf157
  v76 := Tryz.zeroValue157
  t85 := Tryz.underlying192
  a85 := Tryz.isAgg192
  z85 := Tryz.sizeOf192
  v85 := Tryz.zeroValue192
  t127 := Tryz.underlying239
  a127 := Tryz.isAgg239
  z127 := Tryz.sizeOf239
  v127 := Tryz.zeroValue239
  t143 := Tryz.underlying242
  a143 := Tryz.isAgg242
  z143 := Tryz.sizeOf242
  v143 := Tryz.zeroValue242
  t145 := Tryz.underlying244
  a145 := Tryz.isAgg244
  z145 := Tryz.sizeOf244
  v145 := Tryz.zeroValue244
  t167 := Tryz.underlying190
  a167 := Tryz.isAgg190
  z167 := Tryz.sizeOf190
  v167 := Tryz.zeroValue190
  t168 := Tryz.underlying194
  a168 := Tryz.isAgg194
  z168 := Tryz.sizeOf194
  v168 := Tryz.zeroValue194
  t171 := Tryz.underlying245
  a171 := Tryz.isAgg245
  z171 := Tryz.sizeOf245
  v171 := Tryz.zeroValue245
  t173 := Tryz.underlying248
  a173 := Tryz.isAgg248
  z173 := Tryz.sizeOf248
  v173 := Tryz.zeroValue248
  t175 := Tryz.underlying219
  a175 := Tryz.isAgg219
  z175 := Tryz.sizeOf219
  v175 := Tryz.zeroValue219
  t210 := Tryz.underlying224
  a210 := Tryz.isAgg224
  z210 := Tryz.sizeOf224
  v210 := Tryz.zeroValue224
  t212 := Tryz.underlying261
  a212 := Tryz.isAgg261
  z212 := Tryz.sizeOf261
  v212 := Tryz.zeroValue261
  t213 := Tryz.underlying262
  a213 := Tryz.isAgg262
  z213 := Tryz.sizeOf262
  t232 := Tryz.underlying265
  a232 := Tryz.isAgg265
  z232 := Tryz.sizeOf265
  v232 := Tryz.zeroValue265
  t233 := Tryz.underlying266
  a233 := Tryz.isAgg266
  z233 := Tryz.sizeOf266
  v233 := Tryz.zeroValue266
  g15 := by kernel_rfl
  g16 := by kernel_rfl
  g17 := by kernel_rfl
  g18 := by kernel_rfl
  g19 := by kernel_rfl
  t80 := Tryz.underlying159
  a80 := Tryz.isAgg159
  z80 := Tryz.sizeOf159
  v80 := Tryz.zeroValue159
  i0 := by kernel_rfl
  i2 := by kernel_rfl
  i3 := by kernel_rfl
  i4 := by kernel_rfl
  i5 := by kernel_rfl
  i9 := by kernel_rfl
  i20 := by kernel_rfl
  i21 := by kernel_rfl
  i37 := by kernel_rfl
  i46 := by kernel_rfl
  i51 := by kernel_rfl
  i53 := by kernel_rfl
  i75 := by kernel_rfl
  i76 := by kernel_rfl
  i80 := by kernel_rfl
  i85 := by kernel_rfl
  i127 := by kernel_rfl
  i143 := by kernel_rfl
  i145 := by kernel_rfl
  i167 := by kernel_rfl
  i168 := by kernel_rfl
  i171 := by kernel_rfl
  i173 := by kernel_rfl
  i175 := by kernel_rfl
  i210 := by kernel_rfl
  i212 := by kernel_rfl
  i232 := by kernel_rfl
  i233 := by kernel_rfl
  m15 := by kernel_rfl
  m16 := by kernel_rfl
  m17 := by kernel_rfl
  m18 := by kernel_rfl
  m19 := by kernel_rfl
  c0 := by kernel_rfl
  c2 := by kernel_rfl
  c3 := by kernel_rfl
  c4 := by kernel_rfl
  c5 := by kernel_rfl
  c9 := by kernel_rfl
  c20 := by kernel_rfl
  c21 := by kernel_rfl
  c37 := by kernel_rfl
  c46 := by kernel_rfl
  c51 := by kernel_rfl
  c53 := by kernel_rfl
  c75 := by kernel_rfl
  c76 := by kernel_rfl
  c80 := by kernel_rfl
  c85 := by kernel_rfl
  c127 := by kernel_rfl
  c143 := by kernel_rfl
  c145 := by kernel_rfl
  c167 := by kernel_rfl
  c168 := by kernel_rfl
  c171 := by kernel_rfl
  c173 := by kernel_rfl
  c175 := by kernel_rfl
  c210 := by kernel_rfl
  c212 := by kernel_rfl
  c213 := by kernel_rfl
  c232 := by kernel_rfl
  c233 := by kernel_rfl }
open Go.RowKit in
theorem Tryz.strconv_Atoi_ok (s : ByteArray) (hmax : s.size ≤ 9223372036854775806) (v : Int) (h : Lib.atoiAll s.data.toList = .ok v) (w : World) :
    Calls Tryz.prog 102 #[.string s] w fun e w' => e = .returned (.tuple #[.int .i64 v, .nilIface]) ∧ (w' = w ∨ ∃ t, w' = Lib.bytesWorld w 5 t) := Any.strconv_Atoi_ok Tryz.Em s hmax v h w
open Go.RowKit in
theorem Tryz.strconv_Atoi_syntax_var (s : ByteArray) (hlim : s.size ≤ 281474976710656) (e : Lib.NumEnd Int) (h : Lib.atoiAll s.data.toList = e) (h1 : ∀ v, e ≠ .ok v) (h2 : e ≠ .range) (tp : TypeId) (p : Value) (w : World) (hvar : w.var? Tryz.prog "strconv.ErrSyntax" = some #[.iface tp p]) :
    Calls Tryz.prog 102 #[.string s] w fun e w' => ∃ N, e = .returned (.tuple #[.int .i64 0, .iface 194 (.pointer (some ⟨N, 0, none⟩))]) ∧ w.heap.size ≤ N ∧ w'.heap[N]? = some (.cells #[.string ⟨#[65, 116, 111, 105]⟩, .string s, .iface tp p] 224 (0, 0)) ∧ Below w.heap.size w w' := Any.strconv_Atoi_syntax_var Tryz.Em s hlim (by cases e with | ok v => exact absurd rfl (h1 v) | range => exact absurd rfl h2 | _ => exact h) tp p w hvar
open Go.RowKit in
theorem Tryz.strconv_Atoi_range_var (s : ByteArray) (hlim : s.size ≤ 281474976710656) (h : Lib.atoiAll s.data.toList = .range) (tp : TypeId) (p : Value) (w : World) (hvar : w.var? Tryz.prog "strconv.ErrRange" = some #[.iface tp p]) :
    Calls Tryz.prog 102 #[.string s] w fun e w' => ∃ N, e = .returned (.tuple #[.int .i64 (Lib.atoiSat s.data.toList), .iface 194 (.pointer (some ⟨N, 0, none⟩))]) ∧ w.heap.size ≤ N ∧ w'.heap[N]? = some (.cells #[.string ⟨#[65, 116, 111, 105]⟩, .string s, .iface tp p] 224 (0, 0)) ∧ Below w.heap.size w w' := Any.strconv_Atoi_range_var Tryz.Em s hlim h tp p w hvar
def Tryz.G9 : Go.Shelf.Ren := ⟨fun | 171 => 125 | 243 => 142 | 246 => 161 | 283 => 175 | 284 => 176 | 285 => 177 | 286 => 178 | 129 => 184 | 317 => 183 | 318 => 185 | 319 => 186 | 320 => 187 | 337 => 188 | 338 => 189 | n => n, fun | 3 => 3 | 9 => 9 | 2 => 2 | 4 => 4 | 171 => 245 | 0 => 0 | 53 => 218 | 37 => 191 | 5 => 5 | 173 => 248 | 212 => 261 | 51 => 201 | 20 => 20 | 213 => 262 | 46 => 221 | 232 => 265 | 233 => 266 | n => n, fun | 17 => 7 | 18 => 8 | 19 => 9 | n => n⟩
theorem Tryz.OT : Go.Proofs.LaysM.n171 Tryz.prog Tryz.G9 := {
  mixed := by kernel_rfl
  f129 := Tryz.func184.trans (congrArg some (by kernel_rfl))
  f171 := Tryz.func125.trans (congrArg some (by kernel_rfl))
  f243 := Tryz.func142.trans (congrArg some (by kernel_rfl))
  f246 := Tryz.func161.trans (congrArg some (by kernel_rfl))
  f283 := Tryz.func175.trans (congrArg some (by kernel_rfl))
  f284 := Tryz.func176.trans (congrArg some (by kernel_rfl))
  f285 := Tryz.func177.trans (congrArg some (by kernel_rfl))
  f286 := Tryz.func178.trans (congrArg some (by kernel_rfl))
  f317 := Tryz.func183.trans (congrArg some (by kernel_rfl))
  f318 := Tryz.func185.trans (congrArg some (by kernel_rfl))
  f319 := Tryz.func186.trans (congrArg some (by kernel_rfl))
  f320 := Tryz.func187.trans (congrArg some (by kernel_rfl))
  f337 := Tryz.func188.trans (congrArg some (by kernel_rfl))
  f338 := Tryz.func189.trans (congrArg some (by kernel_rfl))
  t0 := Tryz.underlying0
  a0 := Tryz.isAgg0
  z0 := Tryz.sizeOf0
  v0 := Tryz.zeroValue0
  t2 := Tryz.underlying2
  a2 := Tryz.isAgg2
  z2 := Tryz.sizeOf2
  v2 := Tryz.zeroValue2
  t3 := Tryz.underlying3
  a3 := Tryz.isAgg3
  z3 := Tryz.sizeOf3
  v3 := Tryz.zeroValue3
  t4 := Tryz.underlying4
  a4 := Tryz.isAgg4
  z4 := Tryz.sizeOf4
  v4 := Tryz.zeroValue4
  t5 := Tryz.underlying5
  a5 := Tryz.isAgg5
  z5 := Tryz.sizeOf5
  v5 := Tryz.zeroValue5
  t9 := Tryz.underlying9
  a9 := Tryz.isAgg9
  z9 := Tryz.sizeOf9
  v9 := Tryz.zeroValue9
  t20 := Tryz.underlying20
  a20 := Tryz.isAgg20
  z20 := Tryz.sizeOf20
  v20 := Tryz.zeroValue20
  t37 := Tryz.underlying191
  a37 := Tryz.isAgg191
  z37 := Tryz.sizeOf191
  v37 := Tryz.zeroValue191
  t46 := Tryz.underlying221
  a46 := Tryz.isAgg221
  z46 := Tryz.sizeOf221
  v46 := Tryz.zeroValue221
  t51 := Tryz.underlying201
  a51 := Tryz.isAgg201
  z51 := Tryz.sizeOf201
  v51 := Tryz.zeroValue201
  t53 := Tryz.underlying218
  a53 := Tryz.isAgg218
  z53 := Tryz.sizeOf218
  v53 := Tryz.zeroValue218
  t171 := Tryz.underlying245
  a171 := Tryz.isAgg245
  z171 := Tryz.sizeOf245
  v171 := Tryz.zeroValue245
  t173 := Tryz.underlying248
  a173 := Tryz.isAgg248
  z173 := Tryz.sizeOf248
  v173 := Tryz.zeroValue248
  t212 := Tryz.underlying261
  a212 := Tryz.isAgg261
  z212 := Tryz.sizeOf261
  v212 := Tryz.zeroValue261
  t213 := Tryz.underlying262
  a213 := Tryz.isAgg262
  z213 := Tryz.sizeOf262
  t232 := Tryz.underlying265
  a232 := Tryz.isAgg265
  z232 := Tryz.sizeOf265
  v232 := Tryz.zeroValue265
  t233 := Tryz.underlying266
  a233 := Tryz.isAgg266
  z233 := Tryz.sizeOf266
  v233 := Tryz.zeroValue266
  g17 := by kernel_rfl
  g18 := by kernel_rfl
  g19 := by kernel_rfl
  i0 := by kernel_rfl
  i2 := by kernel_rfl
  i3 := by kernel_rfl
  i4 := by kernel_rfl
  i5 := by kernel_rfl
  i9 := by kernel_rfl
  i20 := by kernel_rfl
  i37 := by kernel_rfl
  i46 := by kernel_rfl
  i51 := by kernel_rfl
  i53 := by kernel_rfl
  i171 := by kernel_rfl
  i173 := by kernel_rfl
  i212 := by kernel_rfl
  i232 := by kernel_rfl
  i233 := by kernel_rfl
  m17 := by kernel_rfl
  m18 := by kernel_rfl
  m19 := by kernel_rfl }
open Go.RowKit Go.Sort Go.Lib in
theorem Tryz.strconv_Itoa (n : Int) (h0 : -9223372036854775808 ≤ n) (h1 : n ≤ 9223372036854775807) (w : World) (htab : Lib.TabIs Tryz.prog w "internal/strconv.uint64pow10" .u64 Lib.pow10Tab) :
    Calls Tryz.prog 125 #[.int .i64 n] w fun e w' => e = .returned (.string ⟨(Lib.itoa n).toArray⟩) ∧ ∃ k os, w' = grow (w.drewN k) os := Any.strconv_Itoa Tryz.OT n h0 h1 w htab
def Tryz.I5 : Go.Shelf.Ren := ⟨fun | 157 => 111 | 229 => 126 | 199 => 127 | 261 => 143 | 311 => 162 | 312 => 163 | n => n, fun | 9 => 9 | 31 => 153 | 3 => 3 | 5 => 5 | 4 => 4 | 119 => 182 | 0 => 0 | 40 => 184 | 152 => 198 | 21 => 21 | 154 => 200 | 51 => 201 | 141 => 203 | 196 => 230 | 193 => 227 | 198 => 233 | 49 => 231 | 194 => 228 | 201 => 236 | 226 => 250 | 46 => 221 | 227 => 251 | n => n, fun | 0 => 0 | 6 => 1 | n => n⟩
theorem Tryz.Rk : Go.Proofs.Lays.n157 Tryz.prog Tryz.I5 := {
  mixed := by kernel_rfl
  f157 := Tryz.func111.trans (congrArg some (by kernel_rfl))
  f199 := Tryz.func127.trans (congrArg some (by kernel_rfl))
  f229 := Tryz.func126.trans (congrArg some (by kernel_rfl))
  f261 := Tryz.func143.trans (congrArg some (by kernel_rfl))
  f311 := Tryz.func162.trans (congrArg some (by kernel_rfl))
  f312 := Tryz.func163.trans (congrArg some (by kernel_rfl))
  t0 := Tryz.underlying0
  a0 := Tryz.isAgg0
  z0 := Tryz.sizeOf0
  v0 := Tryz.zeroValue0
  t3 := Tryz.underlying3
  a3 := Tryz.isAgg3
  z3 := Tryz.sizeOf3
  v3 := Tryz.zeroValue3
  t4 := Tryz.underlying4
  a4 := Tryz.isAgg4
  z4 := Tryz.sizeOf4
  v4 := Tryz.zeroValue4
  t5 := Tryz.underlying5
  a5 := Tryz.isAgg5
  z5 := Tryz.sizeOf5
  v5 := Tryz.zeroValue5
  t9 := Tryz.underlying9
  a9 := Tryz.isAgg9
  z9 := Tryz.sizeOf9
  v9 := Tryz.zeroValue9
  t21 := Tryz.underlying21
  a21 := Tryz.isAgg21
  z21 := Tryz.sizeOf21
  v21 := Tryz.zeroValue21
  t31 := Tryz.underlying153
  a31 := Tryz.isAgg153
  z31 := Tryz.sizeOf153
  v31 := Tryz.zeroValue153
  t40 := Tryz.underlying184
  a40 := Tryz.isAgg184
  z40 := Tryz.sizeOf184
  v40 := Tryz.zeroValue184
  t46 := Tryz.underlying221
  a46 := Tryz.isAgg221
  z46 := Tryz.sizeOf221
  v46 := Tryz.zeroValue221
  t49 := Tryz.underlying231
  a49 := Tryz.isAgg231
  z49 := Tryz.sizeOf231
  v49 := Tryz.zeroValue231
  t51 := Tryz.underlying201
  a51 := Tryz.isAgg201
  z51 := Tryz.sizeOf201
  v51 := Tryz.zeroValue201
  t119 := Tryz.underlying182
  a119 := Tryz.isAgg182
  z119 := Tryz.sizeOf182
  t141 := Tryz.underlying203
  a141 := Tryz.isAgg203
  z141 := Tryz.sizeOf203
  v141 := Tryz.zeroValue203
  t152 := Tryz.underlying198
  a152 := Tryz.isAgg198
  z152 := Tryz.sizeOf198
  v152 := Tryz.zeroValue198
  t154 := Tryz.underlying200
  a154 := Tryz.isAgg200
  z154 := Tryz.sizeOf200
  v154 := Tryz.zeroValue200
  t193 := Tryz.underlying227
  a193 := Tryz.isAgg227
  z193 := Tryz.sizeOf227
  v193 := Tryz.zeroValue227
  t194 := Tryz.underlying228
  a194 := Tryz.isAgg228
  z194 := Tryz.sizeOf228
  v194 := Tryz.zeroValue228
  t196 := Tryz.underlying230
  a196 := Tryz.isAgg230
  z196 := Tryz.sizeOf230
  v196 := Tryz.zeroValue230
  t198 := Tryz.underlying233
  a198 := Tryz.isAgg233
  z198 := Tryz.sizeOf233
  v198 := Tryz.zeroValue233
  t201 := Tryz.underlying236
  a201 := Tryz.isAgg236
  z201 := Tryz.sizeOf236
  v201 := Tryz.zeroValue236
  t226 := Tryz.underlying250
  a226 := Tryz.isAgg250
  z226 := Tryz.sizeOf250
  v226 := Tryz.zeroValue250
  t227 := Tryz.underlying251
  a227 := Tryz.isAgg251
  z227 := Tryz.sizeOf251
  v227 := Tryz.zeroValue251
  g0 := by kernel_rfl
  g6 := by kernel_rfl }
open Go.RowKit Go.Lib in
theorem Tryz.strings_Fields (s : ByteArray) (w : World) (hs : s.size < 4294967281) (hascii : ∀ (j : Nat) b, s.data.toList[j]? = some b → b.toNat < 128) (htab : Lib.TabIs Tryz.prog w "strings.asciiSpace" .u8 Lib.asciiSpaceTab) :
    Calls Tryz.prog 111 #[.string s] w fun e w' =>
      e = .returned (.slice (some ⟨w.heap.size, 0, none⟩) (Lib.fields s.data.toList).length (Lib.fields s.data.toList).length) ∧ w' = w.alloc (.cells ((Lib.fields s.data.toList).map fun l => Value.string ⟨l.toArray⟩).toArray 9) := Any.strings_Fields Tryz.Rk (by kernel_rfl) (by kernel_rfl) s w hs hascii htab
def Tryz.Df : Go.Shelf.Ren := ⟨fun | 156 => 131 | 165 => 148 | 166 => 149 | 169 => 150 | 240 => 165 | 241 => 166 | 276 => 179 | 277 => 180 | n => n, fun | 31 => 153 | 9 => 9 | 3 => 3 | 4 => 4 | 0 => 0 | 20 => 20 | 72 => 209 | 76 => 157 | 70 => 207 | 37 => 191 | 75 => 156 | 127 => 239 | 164 => 252 | 5 => 5 | 80 => 159 | n => n, fun | n => n⟩
theorem Tryz.LV : Go.Proofs.Lays.n156 Tryz.prog Tryz.Df := {
  mixed := by kernel_rfl
  f156 := Tryz.func131.trans (congrArg some (by kernel_rfl))
  f165 := Tryz.func148.trans (congrArg some (by kernel_rfl))
  f166 := Tryz.func149.trans (congrArg some (by kernel_rfl))
  f169 := Tryz.func150.trans (congrArg some (by kernel_rfl))
  f240 := Tryz.func165.trans (congrArg some (by kernel_rfl))
  f241 := Tryz.func166.trans (congrArg some (by kernel_rfl))
  f276 := Tryz.func179.trans (congrArg some (by kernel_rfl))
  f277 := Tryz.func180.trans (congrArg some (by kernel_rfl))
  t0 := Tryz.underlying0
  a0 := Tryz.isAgg0
  z0 := Tryz.sizeOf0
  v0 := Tryz.zeroValue0
  t3 := Tryz.underlying3
  a3 := Tryz.isAgg3
  z3 := Tryz.sizeOf3
  v3 := Tryz.zeroValue3
  t4 := Tryz.underlying4
  a4 := Tryz.isAgg4
  z4 := Tryz.sizeOf4
  v4 := Tryz.zeroValue4
  t9 := Tryz.underlying9
  a9 := Tryz.isAgg9
  z9 := Tryz.sizeOf9
  v9 := Tryz.zeroValue9
  t20 := Tryz.underlying20
  a20 := Tryz.isAgg20
  z20 := Tryz.sizeOf20
  v20 := Tryz.zeroValue20
  t31 := Tryz.underlying153
  a31 := Tryz.isAgg153
  z31 := Tryz.sizeOf153
  v31 := Tryz.zeroValue153
  t37 := Tryz.underlying191
  a37 := Tryz.isAgg191
  z37 := Tryz.sizeOf191
  v37 := Tryz.zeroValue191
  t70 := Tryz.underlying207
  a70 := Tryz.isAgg207
  z70 := Tryz.sizeOf207
  v70 := Tryz.zeroValue207
  t72 := Tryz.underlying209
  a72 := Tryz.isAgg209
  z72 := Tryz.sizeOf209
  v72 := Tryz.zeroValue209
  t75 := Tryz.underlying156
  a75 := Tryz.isAgg156
  z75 := Tryz.sizeOf156
  v75 := Tryz.zeroValue156
  t76 := Tryz.underlying157
  a76 := Tryz.isAgg157
  z76 := Tryz.sizeOf157
  v76 := Tryz.zeroValue157
  t127 := Tryz.underlying239
  a127 := Tryz.isAgg239
  z127 := Tryz.sizeOf239
  v127 := Tryz.zeroValue239
  t164 := Tryz.underlying252
  a164 := Tryz.isAgg252
  z164 := Tryz.sizeOf252
  v164 := Tryz.zeroValue252 }
theorem Tryz.vM : Builder.Extra Tryz.prog Tryz.Df := {
  sizeBuilder := by kernel_rfl
  liesBuilder := by kernel_rfl
  t5 := Tryz.underlying5
  a5 := Tryz.isAgg5
  z5 := Tryz.sizeOf5
  v5 := Tryz.zeroValue5
  infoByte := by kernel_rfl
  cellsByte := by kernel_rfl
  sizeByte := by kernel_rfl
  neB5 := by decide }
open Go.RowKit in
theorem Tryz.strings_Join_none (a : Option Addr) (c : Nat) (sep : ByteArray) (w : World) :
    Calls Tryz.prog 131 #[.slice a 0 c, .string sep] w fun e w' => e = .returned (.string ⟨#[]⟩) ∧ w' = w := Any.strings_Join_none Tryz.LV Tryz.vM a c sep w
open Go.RowKit in
theorem Tryz.strings_Join (bk o c : Nat) (xs : List ByteArray) (sep : ByteArray) (w : World) (hcells : ∀ (j : Nat) x, xs[j]? = some x → w.cell? ⟨bk, o + j, none⟩ = some (.string x)) (hbk : bk < w.heap.size) (hN : xs.length ≤ 140737488355328) (hcap : xs.length ≤ c) (hlen : (Lib.join (xs.map (·.data.toList)) sep.data.toList).length ≤ 140737488355328) :
    Calls Tryz.prog 131 #[.slice (some ⟨bk, o, none⟩) xs.length c, .string sep] w fun e w' => e = .returned (.string ⟨(Lib.join (xs.map (·.data.toList)) sep.data.toList).toArray⟩) ∧ Below w.heap.size w w' := Any.strings_Join Tryz.LV Tryz.vM bk o c xs sep w hcells hbk hN hcap hlen
end Go.Proofs
