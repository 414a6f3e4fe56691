/-
  What the law VmParts needs of our own library and of the walks, no more.
-/
import Derived.Laws.IdiomRangeMap
import Derived.Lib.FieldsLaws
import Derived.Test.YtfclkapelkhlpaaGreatDoorProg
import Derived.Lib.Strings
import Derived.Lib.Slices
import Derived.Lib.Walk
import Derived.Lib.Bytealg
import Derived.Shelf.Strings.OnBuilder
import Derived.Shelf.LaysM
import Derived.Shelf.Strconv.Itoa3
import Derived.Shelf.LaysC
import Derived.Shelf.Strconv.AtoiAll
import Derived.Shelf.Strconv.ErrVarAll
import Derived.Shelf.Strings.Split
import Derived.Shelf.Strings.Fields
import Derived.Shelf.Strings.BuilderX
import Derived.Test.YtfclkapelkhlpaaGreatDoorVmPartsTa
set_option linter.unusedSimpArgs false
set_option linter.unusedVariables false
set_option maxRecDepth 10000
namespace Go.LX
open Go.RowKit Go.Proofs
def RngP {α : Type} (f : α → Value) (m r : Nat) (last : Option (Int × α)) (left : List (Int × α)) (w : World) : Prop :=
  m ≠ r ∧ ∃ es clock seen, w.heap[m]? = some (.map es clock) ∧ Ak es clock ∧ w.heap[r]? = some (.mapIter (some m) clock seen clock) ∧
    (leftOf es seen).toList.map (fun e => (e.key, e.val)) = left.map (fun p => (Value.int .i64 p.1, f p.2)) ∧
    ∀ p, last = some p → ∃ e ∈ es.toList, seen.back? = some e.born ∧ e.key = .int .i64 p.1 ∧ e.val = f p.2
def Kb {α : Type} (f : α → Value) (m r : Nat) (last : Option (Int × α)) (left : List (Int × α)) : Pce where
  own x := x = m ∨ x = r
  P w _ := RngP f m r last left w
  lt := by
    rintro w A x ⟨_, es, clock, seen, h1, _, h2, _⟩ (rfl | rfl)
    · exact gK h1
    · exact gK h2
  go := by
    rintro w w' A A' K ⟨h0, es, clock, seen, h1, h2, h3, h4⟩ hk hK hKo hA
    exact ⟨h0, es, clock, seen, hk.blk h1 (fun h => hKo m h (.inl rfl)), h2, hk.blk h3 (fun h => hKo r h (.inr rfl)), h4⟩
section
variable {P : Program} {ops : Array Oper} {Q : Exit → Act → World → Prop} {n : Nat} {env : Nat → Value} {w w' w0 : World} {M K : BS} {hp : Nat → Chunk} {rest : List Oper}
  {d : Option Nat} {op : Op} {ty : TypeId} {pos : String} {af : Array Edge} {v : Value} {g : Option (Nat × Bool)} {T : TypeId} {ρ : Operand → Value} {x y : Operand} {α : Type} {f : α → Value}
theorem XX {z : Value} {m : Nat} {fK : List (Int × Value)} (l : List (Int × α)) (h : SH w0 M K w hp) (i : Nat) (hi : hp i = .mp m fK) (hT : MapOf P T z) (hx : ev n env x = .map (some m)) (he : fK = l.map fun p => (p.1, f p.2))
    (k : ∀ w' r, SH w0 M K w' (bH hp i (.gZ (Kb f m r none l))) → WL P ops Q rest n (jJ env d (.pointer (some ⟨r, 0, none⟩))) w') : WL P ops Q (⟨d, .range T x, ty, pos, af, none⟩ :: rest) n env w := by
  obtain ⟨K', E, h1, h2, h3⟩ := hT.desc
  obtain ⟨es, clock, hb, he2, Uz⟩ := h.Po i hi
  have hrun : (execOp (ev n env) ⟨d, .range T x, ty, pos, af, none⟩).run P w = .ok (.value (.pointer (some ⟨w.heap.size, 0, none⟩))) (w.alloc (.mapIter (some m) clock #[] clock)) := by
    simp only [execOp, hx]
    simp [run_range_map w T K' E m es clock h1 hb]
  refine aa hrun (k _ _ ?_)
  have hlt := gK hb
  refine h.step i (N := BE) (Grow.alloc _ _) (fun _ h => h.elim) (fun b hb' hl => ?_) ?_
  · rw [hi]
    rcases hb' with rfl | rfl
    · rfl
    · exact absurd hl (Nat.lt_irrefl _)
  · refine ⟨Nat.ne_of_lt hlt, es, clock, #[], by rw [(Grow.alloc _ _).blk hb], Uz, heap_alloc_new _ _, ?_, fun p h => by cases h⟩
    have : leftOf es #[] = es := by unfold leftOf; exact Array.filter_eq_self.2 (fun x _ => by simp)
    rw [this, he2, he, List.map_map]
    rfl
theorem GZ {r : Nat} {a : Option Nat} {s c : Nat} {sn : Array Nat} (o : Obj) (hr : w.heap[r]? = some (.mapIter a s sn c)) : (setObj r o).run P w = .ok () (qW w r o) := by
  simp only [setObj, Sem.run, hr]
  rfl
theorem run_next_any (ty : TypeId) {m r clock : Nat} {es : Array MapEntry} {seen : Array Nat} (hm : w.heap[m]? = some (.map es clock)) (hr : w.heap[r]? = some (.mapIter (some m) clock seen clock)) (Uz : ∀ e ∈ es.toList, e.born < clock) :
    ((leftOf es seen).size = 0 ∧ (Instr.next (.pointer (some ⟨r, 0, none⟩)) false ty).run P w = .ok (.tuple #[.bool false]) w) ∨
    ∃ e ∈ (leftOf es seen).toList, ∃ w1 : World, (w1 = w ∨ w1 = w.drew) ∧ (Instr.next (.pointer (some ⟨r, 0, none⟩)) false ty).run P w = .ok (.tuple #[.bool true, e.key, e.val]) (qW w1 r (.mapIter (some m) clock (seen.push e.born) clock)) := by
  have hgr : (getObj r).run P w = .ok (.mapIter (some m) clock seen clock) w := by simp [getObj, Sem.run, hr]
  have hgm : (getObj m).run P w = .ok (.map es clock) w := by simp [getObj, Sem.run, hm]
  simp only [Instr.next, Sem.run_bind, hgr, hgm, Result.andThen_ok, next_test_false seen es clock clock Uz (Nat.le_refl _), Bool.false_eq_true, if_false]
  unfold leftOf
  have hmem : ∀ x ∈ (Array.filter (fun e => !seen.contains e.born) es).toList, x.born < clock := fun x hx => Uz x (by simp at hx ⊢; exact hx.1)
  generalize Array.filter (fun e => !seen.contains e.born) es = L at hmem ⊢
  have e1 : L.filter (fun x => decide (x.born < clock)) = L := Array.filter_eq_self.2 (fun x hx => by simpa using hmem x (by simpa using hx))
  have e2 : L.filter (fun x => decide (x.born ≥ clock)) = #[] := by
    rw [Array.filter_eq_empty_iff]
    intro x hx
    have := hmem x (by simpa using hx)
    simp
    omega
  simp only [e1, e2, Array.append_empty]
  by_cases h0 : L.size = 0
  · left
    have : L = #[] := Array.eq_empty_of_size_eq_zero h0
    subst this
    refine ⟨rfl, ?_⟩
    simp [choose, Sem.run, Question.forced]
  · right
    have hne : L.isEmpty = false := by simp [Array.isEmpty, h0]
    simp only [hne, Bool.false_eq_true, if_false, Array.empty_append, Array.size_map]
    have hch : ∃ (j : Nat) (w1 : World), j < L.size ∧ (w1 = w ∨ w1 = w.drew) ∧ (choose (Question.mapNext L.size)).run P w = .ok j w1 := by
      by_cases hf : L.size ≤ 1
      · exact ⟨0, w, by omega, .inl rfl, by simp [choose, Sem.run, Question.forced, hf]⟩
      · exact ⟨_, w.drew, Nat.mod_lt _ (by omega), .inr rfl, by
          simp only [choose, Sem.run, Question.forced, decide_eq_true_eq, hf, if_false, Question.cut]
          rfl⟩
    obtain ⟨j, w1, hj, hw1, hrun⟩ := hch
    refine ⟨L[j], by simp, w1, hw1, ?_⟩
    have hr1 : w1.heap[r]? = some (.mapIter (some m) clock seen clock) := by rcases hw1 with rfl | rfl <;> exact hr
    simp only [hrun, Array.getElem?_map, Array.getElem?_eq_getElem hj, Option.map_some, Sem.run_bind, GZ _ hr1, Result.andThen_ok]
    rfl
theorem Ny (es : Array MapEntry) (seen : Array Nat) (b : Nat) : (leftOf es (seen.push b)).toList = (leftOf es seen).toList.filter (fun x => x.born != b) := by
  unfold leftOf
  rw [Array.toList_filter, Array.toList_filter, List.filter_filter]
  apply List.filter_congr
  intro x _
  have : (seen.push b).contains x.born = (seen.contains x.born || (x.born == b)) := by
    rw [Bool.eq_iff_iff]
    simp [Array.contains_iff_mem]
  rw [this]
  cases seen.contains x.born <;> cases hq : (x.born == b) <;> simp [bne, hq]
theorem aab {m r : Nat} {last : Option (Int × α)} {left : List (Int × α)} (h : SH w0 M K w hp) (i : Nat) (hi : hp i = .gZ (Kb f m r last left)) (hx : ev n env x = .pointer (some ⟨r, 0, none⟩))
    (k0 : left = [] → WL P ops Q rest n (jJ env d (.tuple #[.bool false])) w)
    (k1 : ∀ p left' w', left.Perm (p :: left') → SH w0 M K w' (bH hp i (.gZ (Kb f m r (some p) left'))) → WL P ops Q rest n (jJ env d (.tuple #[.bool true, .int .i64 p.1, f p.2])) w') :
    WL P ops Q (⟨d, .next x false, ty, pos, af, none⟩ :: rest) n env w := by
  have hc := h.ok i
  rw [hi] at hc
  obtain ⟨hne, es, clock, seen, h1, h2, h3, h4, h5⟩ := hc
  rcases run_next_any (P := P) ty h1 h3 h2.1 with ⟨g1, g2⟩ | ⟨e, he, w1, hw1, g2⟩
  · have hl : left = [] := by
      have : (leftOf es seen).toList = [] := List.eq_nil_of_length_eq_zero (by simpa using g1)
      rw [this] at h4
      cases left with
      | nil => rfl
      | cons p l => cases h4
    refine aa (v := .tuple #[.bool false]) (w' := w) ?_ (k0 hl)
    simp only [execOp, hx]
    simp [g2]
  · obtain ⟨A, B, hAB⟩ := List.append_of_mem he
    rw [hAB, List.map_append, List.map_cons] at h4
    obtain ⟨la, l2, rfl, q1, q2⟩ := List.map_eq_append_iff.1 h4.symm
    obtain ⟨p, lb, rfl, q3, q4⟩ := List.map_eq_cons_iff.1 q2
    simp only [Prod.mk.injEq] at q3
    have hlt1 := gK h3
    have hk1 : Grow w w1 := by
      rcases hw1 with rfl | rfl
      · exact aI.refl _ _
      · exact ⟨rfl, rfl, rfl, Nat.le_refl _, fun _ _ _ => rfl⟩
    have hk : aI (fun x => x = m ∨ x = r) w (qW w1 r (.mapIter (some m) clock (seen.push e.born) clock)) := aI.step (hk1.weaken (fun _ h _ => h.elim)) (aI.qW _ _ _) (fun x hx _ => .inr hx)
    have hm1 : (qW w1 r (.mapIter (some m) clock (seen.push e.born) clock)).heap[m]? = some (.map es clock) := by
      rw [(aI.qW w1 r _).block m hne (Nat.lt_of_lt_of_le (gK h1) hk1.size), hk1.blk h1]
    refine aa (v := .tuple #[.bool true, .int .i64 p.1, f p.2]) (w' := qW w1 r (.mapIter (some m) clock (seen.push e.born) clock)) ?_ (k1 p (la ++ lb) _ (List.perm_middle) ?_)
    · rw [q3.1, q3.2]
      simp only [execOp, hx]
      simp [g2]
    · refine h.Ar (S' := Kb f m r (some p) (la ++ lb)) i hi ?_ hk (fun b hb _ => hb)
      refine ⟨hne, es, clock, seen.push e.born, hm1, h2, tL (Nat.lt_of_lt_of_le hlt1 hk1.size), ?_, fun p' hp' => ?_⟩
      · rw [Ny, hAB]
        have hnd : ((leftOf es seen).toList.map (·.born)).Nodup := by
          unfold leftOf
          rw [Array.toList_filter]
          exact (h2.2.sublist ((List.filter_sublist (l := es.toList)).map _))
        rw [hAB, List.map_append, List.map_cons, List.nodup_append] at hnd
        obtain ⟨n1, n2, n3⟩ := hnd
        rw [List.filter_append, List.filter_cons_of_neg (by simp), List.filter_eq_self.2 (fun x hx => ?_), List.filter_eq_self.2 (fun x hx => ?_), List.map_append, List.map_append, ← q1, ← q4]
        · have := (List.nodup_cons.1 n2).1
          simp only [bne_iff_ne, ne_eq, decide_not, Bool.not_eq_true', beq_eq_false_iff_ne]
          intro hq
          exact this (by rw [← hq]; exact List.mem_map.2 ⟨x, hx, rfl⟩)
        · simp only [bne_iff_ne, ne_eq, decide_not, Bool.not_eq_true', beq_eq_false_iff_ne]
          intro hq
          exact n3 x.born (List.mem_map.2 ⟨x, hx, rfl⟩) e.born (by simp) hq
      · cases hp'
        refine ⟨e, ?_, by simp, q3.1.symm, q3.2.symm⟩
        have : e ∈ (leftOf es seen).toList := he
        unfold leftOf at this
        rw [Array.toList_filter] at this
        exact (List.mem_filter.1 this).1
theorem XY {m r : Nat} {p : Int × α} {left : List (Int × α)} (h : SH w0 M K w hp) (i : Nat) (hi : hp i = .gZ (Kb f m r (some p) left)) (hx : ρ x = .pointer (some ⟨r, 0, none⟩)) :
    (execOp ρ ⟨d, .entry x, ty, pos, af, g⟩).run P w = .ok (.value (.tuple #[.int .i64 p.1, f p.2])) w := by
  have hc := h.ok i
  rw [hi] at hc
  obtain ⟨hne, es, clock, seen, h1, h2, h3, h4, h5⟩ := hc
  obtain ⟨e, he, hs, hk, hv⟩ := h5 p rfl
  have hgr : (getObj r).run P w = .ok (.mapIter (some m) clock seen clock) w := by simp [getObj, Sem.run, h3]
  have hgm : (getObj m).run P w = .ok (.map es clock) w := by simp [getObj, Sem.run, h1]
  have hf : es.find? (·.born == e.born) = some e := by rw [← Array.find?_toList]; exact find_born e es.toList h2.2 he
  simp only [execOp, hx]
  have : (Instr.entry (.pointer (some ⟨r, 0, none⟩))).run P w = .ok (.tuple #[.int .i64 p.1, f p.2]) w := by
    simp only [Instr.entry, Sem.run_bind, hgr, hgm, Result.andThen_ok, hs, bne_self_eq_false, Bool.false_eq_true, if_false, hf]
    rw [hk, hv]
    rfl
  simp [this]
theorem SH.KM {m r : Nat} {last : Option (Int × α)} {left : List (Int × α)} (h : SH w0 M K w hp) (i : Nat) (hi : hp i = .gZ (Kb f m r last left)) : SH w0 M K w (bH hp i (.gZ (Kb f m r none left))) := by
  have hc := h.ok i
  rw [hi] at hc
  obtain ⟨hne, es, clock, seen, h1, h2, h3, h4, h5⟩ := hc
  exact h.Ar (S' := Kb f m r none left) i hi ⟨hne, es, clock, seen, h1, h2, h3, h4, fun p h => by cases h⟩ (aI.refl _ _) (fun b hb _ => hb)
end
def Iw {α σ : Type} (step : α → σ → Option σ) : List α → σ → Option σ
  | [], s => some s
  | a :: l, s => (step a s).bind (Iw step l)
def rR {α σ : Type} (step : α → σ → Option σ) (L : List α) (s fin : σ) : Prop := ∀ p, p.Perm L → Iw step p s = some fin
open Classical in
noncomputable def yB {α σ : Type} (step : α → σ → Option σ) (L : List α) (s : σ) : Option σ := if h : ∃ fin, rR step L s fin then some h.choose else none
theorem aac {α σ : Type} {step : α → σ → Option σ} {L : List α} {s fin : σ} (h : yB step L s = some fin) : rR step L s fin := by
  unfold yB at h
  split at h
  · rename_i hx
    cases h
    exact hx.choose_spec
  · cases h
theorem Px {α σ : Type} {step : α → σ → Option σ} {L : List α} {s fin : σ} (h : rR step L s fin) : yB step L s = some fin := by
  have hx : ∃ fin, rR step L s fin := ⟨fin, h⟩
  unfold yB
  rw [dif_pos hx]
  have h1 := hx.choose_spec L (List.Perm.refl _)
  rw [h L (List.Perm.refl _)] at h1
  exact h1.symm
theorem rR.nil {α σ : Type} {step : α → σ → Option σ} {s fin : σ} (h : rR step [] s fin) : s = fin := by
  have := h [] (List.Perm.refl _)
  exact Option.some.inj this
theorem rR.cons {α σ : Type} {step : α → σ → Option σ} {L L' : List α} {p : α} {s fin : σ} (h : rR step L s fin) (hp : L.Perm (p :: L')) : ∃ s1, step p s = some s1 ∧ rR step L' s1 fin := by
  have h0 := h (p :: L') hp.symm
  obtain ⟨s1, h1, h2⟩ := aJ h0
  refine ⟨s1, h1, fun q hq => ?_⟩
  have := h (p :: q) ((hq.cons p).trans hp.symm)
  unfold Iw at this
  rw [h1] at this
  exact this
end Go.LX
namespace Go.LX
open Go.RowKit Go.Proofs
section
variable {w0 w w' : World} {M K : BS} {hp : Nat → Chunk} {C : Chunk}
theorem SH.Au {b : Nat} {cs : List Value} (h : SH w M K w hp) (i : Nat) (ho : ∃ E, w.heap[b]? = some (.cells cs.toArray E (0, 0))) (hb : ¬ C.own' b) (hn : ∀ b, eQ hp b → C.own' b) : SH w M K w (bH hp i (.pt b 0 cs)) := by
  obtain ⟨E, hE⟩ := ho
  exact h.pt i (fun h => hb (hn b h)) ⟨_, E, _, hE, by simp⟩
theorem qI {i b o : Nat} {cs : List Value} (hn : ∀ b, eQ hp b → C.own' b) : ∀ x, eQ (bH hp i (.pt b o cs)) x → C.own' x := by
  rintro x ⟨j, hj⟩
  by_cases e : j = i
  · subst e; rw [bI] at hj; exact hj.elim
  · rw [di e] at hj; exact hn x ⟨j, hj⟩
theorem SH.U6 {c e f : Chunk} (h : SH w0 M K w hp) (i j k : Nat) (hij : i ≠ j) (hik : i ≠ k) (hjk : j ≠ k) (hi : hp i = c) (hj : hp j = e) (hk0 : hp k = f) (hk : aI (fun b => c.own' b ∨ e.own' b ∨ f.own' b) w w') :
    SH w0 M K w' (bH (bH (bH (bH (bH hp j .no) i (.two (hp i) (hp j))) k .no) i (.two ((bH (bH hp j .no) i (.two (hp i) (hp j))) i) ((bH (bH hp j .no) i (.two (hp i) (hp j))) k))) i .no) := by
  have h1 := h.pair i j hij
  have h2 := h1.pair i k hik
  refine h2.rD i (bI _ _ _) ?_
  rw [bI, di (fun e => hik e.symm), di (fun e => hjk e.symm), hi, hj, hk0]
  refine hk.weaken (fun b hb _ => ?_)
  rcases hb with hb | hb | hb
  · exact .inl (.inl hb)
  · exact .inl (.inr hb)
  · exact .inr hb
end
section
variable {α : Type} {R : jE α} {E : TypeId} {w0 w w' : World} {M K A : BS} {hp : Nat → Chunk} {C : Chunk} {v : Value} {l : List α}
theorem dW.srcB {B : BS} (h : dW R E w A v l) (hB : ∀ b, ob v b → ¬ B b) : gB R w B A v l := by
  have h0 := h.src
  obtain ⟨xs, h1, h3⟩ := h
  rcases h1.2 with ⟨rfl, hn⟩ | ⟨g, cap, cur, rfl, e1, e2, e3, e4, e5, e6⟩
  · have : l = [] := List.eq_nil_of_length_eq_zero hn
    subst this
    exact gB.nil
  · obtain ⟨a, cap', q0, q1, q2, q3, q4⟩ := h0
    refine ⟨a, cap', q0, q1, q2, q3, fun i hi => ?_⟩
    obtain ⟨b, o, cells, F, fz, p1, p2, p3, p4⟩ := q4 i hi
    refine ⟨b, o, cells, F, fz, p1, ?_, p3, p4⟩
    subst p1
    simp only [Value.slice.injEq, Option.some.injEq, Addr.mk.injEq] at q0
    exact hB b (by simp [ob, q0.1.1])
theorem yC {i : Nat} (hn : ∀ b, eQ hp b → C.own' b) : ∀ b, eQ (bH hp i (.sr R v l)) b → C.own' b := by
  rintro b ⟨j, hj⟩
  by_cases e : j = i
  · subst e; rw [bI] at hj; exact hj.elim
  · rw [di e] at hj; exact hn b ⟨j, hj⟩
theorem SH.U7 (h : SH w M K w hp) (i : Nat) (ho : gB R w C.own' (fun b => M b ∨ C.own' b) v l) (hn : ∀ b, eQ hp b → C.own' b) : SH w M K w (bH hp i (.sr R v l)) :=
  h.know i (fun _ h => h) (ho.sub (fun b hb _ => hn b hb) (fun b hb _ => hb.imp id (hn b)))
theorem U8 {i : Nat} (hi : hp i = C) : ∀ b, (M b ∨ rest hp i b) ∨ C.own' b → SH.A M hp b := by
  rintro b ((hb | hb) | hb)
  · exact .inl hb
  · exact .inr (iW hb)
  · exact .inr ⟨i, by rw [hi]; exact hb⟩
theorem SH.ownSr (h : SH w0 M K w hp) (i j : Nat) (hij : i ≠ j) (hj : hp j = .own R E v l) (hi : hp i = C) : gB R w C.own' (fun b => (M b ∨ rest hp i b) ∨ C.own' b) v l :=
  ((h.dD j hj).srcB (B := C.own') (fun b hb hc => h.apart i j hij b (by rw [hi]; exact hc) (by rw [hj]; exact hb))).sub (fun _ h _ => h) (fun b hb _ => U8 hi b hb)
theorem SH.XZ (h : SH w0 M K w hp) (i j : Nat) (hj : hp j = .sr R v l) (hi : hp i = C) : gB R w C.own' (fun b => (M b ∨ rest hp i b) ∨ C.own' b) v l :=
  (h.Dr j hj).sub (fun b hb _ => ⟨i, by rw [hi]; exact hb⟩) (fun b hb _ => U8 hi b hb)
end
def Ep (s : Str) : Option (List Str) := gL (s.length < 4294967281 ∧ (s.all fun b => decide (b.toNat < 128)) = true ∧ (Lib.fields s).length ≤ 4294967281) (some (Lib.fields s))
theorem U9 {P : Program} {f : FuncId} {E : TypeId} {g q : Nat} {w0 : World} {M : BS} (hc : ∀ (s : ByteArray) (w : World), s.size < 4294967281 → (∀ (j : Nat) b, s.data.toList[j]? = some b → b.toNat < 128) → Lib.TabIs P w "strings.asciiSpace" .u8 Lib.asciiSpaceTab →
    Calls P f #[.string s] w fun e w' => e = .returned (.slice (some ⟨w.heap.size, 0, none⟩) (Lib.fields s.data.toList).length (Lib.fields s.data.toList).length) ∧ w' = w.alloc (.cells ((Lib.fields s.data.toList).map fun l => Value.string ⟨l.toArray⟩).toArray E))
    (hq : P.globalNamed "strings.asciiSpace" = some q) (hM : ∀ b, M b → b < w0.heap.size) (hT : vK P g w0) {s : Str} {r : List Str} (hs : Ep s = some r) : Calls P f #[aV s] w0 (fun e w' => Grow w0 w' ∧ ∃ u, e = .returned u ∧ fu nY w' M u r) := by
  obtain ⟨⟨h1, h2, h3⟩, hs⟩ := bg hs
  cases hs
  refine (hc ⟨s.toArray⟩ w0 (by rw [o7]; exact h1) (fun j b hb => ?_) (hT.asc q hq)).mono ?_
  · have := List.all_eq_true.1 h2 b (List.mem_of_getElem? (by simpa using hb))
    simpa using this
  · rintro e w' ⟨rfl, rfl⟩
    refine ⟨Grow.alloc _ _, _, rfl, ?_⟩
    have := Ro (E := E) (l := (Lib.fields s).map fun l => (⟨l.toArray⟩ : ByteArray)) (cap := (Lib.fields s).length) (cells := ((Lib.fields s).map fun l => Value.string ⟨l.toArray⟩).toArray) w0 hM (by rw [List.length_map]; exact Nat.le_refl _) (by unfold maxLen; omega) (fun j hj => by simp)
    rw [List.length_map, List.map_map] at this
    have e : (List.map (((fun x => x.data.toList) : ByteArray → Str) ∘ fun l => ⟨l.toArray⟩) (Lib.fields s)) = Lib.fields s := by simp [Function.comp_def]
    simpa [Function.comp_def] using this
end Go.LX
namespace Go.LX
open Go.RowKit Go.Proofs Go.ChangeShapes
def Dm (b o : Nat) (r : Nat × Nat × Nat) : Bool := Nat.beq r.1 b && (Nat.ble r.2.1 o && Nat.blt o (r.2.1 + r.2.2))
def Fw (b o : Nat) : List (Nat × Nat × Nat) → List (Nat × Nat × Nat)
  | [] => [(b, o, 1)]
  | (c, s, l) :: r => bif Nat.beq c b && Nat.beq (o + 1) s then (b, o, l + 1) :: r else (b, o, 1) :: (c, s, l) :: r
def Mc : List MemPlace → Option (List (Nat × Nat × Nat))
  | [] => some []
  | .cell b o :: r => (Mc r).bind fun rs => bif rs.any (Dm b o) then none else some (Fw b o rs)
  | _ :: _ => none
theorem Py {b o c q : Nat} {rs : List (Nat × Nat × Nat)} (h : rs.any (Dm c q) = true) : (Fw b o rs).any (Dm c q) = true := by
  cases rs with
  | nil => cases h
  | cons r rs =>
    obtain ⟨d, s, l⟩ := r
    have e : Fw b o ((d, s, l) :: rs) = bif Nat.beq d b && Nat.beq (o + 1) s then (b, o, l + 1) :: rs else (b, o, 1) :: (d, s, l) :: rs := rfl
    rw [e]
    cases hc : (Nat.beq d b && Nat.beq (o + 1) s) with
    | false => rw [cond_false, List.any_cons, h, Bool.or_true]
    | true =>
      rw [cond_true]
      simp only [Bool.and_eq_true, Nat.beq_eq] at hc
      obtain ⟨rfl, rfl⟩ := hc
      rw [List.any_cons] at h ⊢
      rcases Bool.or_eq_true_iff.1 h with h | h
      · unfold Dm at h ⊢
        simp only [Bool.and_eq_true, Nat.beq_eq, Nat.ble_eq, Nat.blt_eq] at h
        have : (Nat.beq d c && (Nat.ble o q && Nat.blt q (o + (l + 1)))) = true := by
          simp only [Bool.and_eq_true, Nat.beq_eq, Nat.ble_eq, Nat.blt_eq]; omega
        rw [this, Bool.true_or]
      · rw [h, Bool.or_true]
theorem Pz {b o : Nat} {rs : List (Nat × Nat × Nat)} : (Fw b o rs).any (Dm b o) = true := by
  cases rs with
  | nil => simp [Fw, Dm]
  | cons r rs =>
    obtain ⟨d, s, l⟩ := r
    have e : Fw b o ((d, s, l) :: rs) = bif Nat.beq d b && Nat.beq (o + 1) s then (b, o, l + 1) :: rs else (b, o, 1) :: (d, s, l) :: rs := rfl
    rw [e]
    cases (Nat.beq d b && Nat.beq (o + 1) s) with
    | false => simp [Dm]
    | true => simp [Dm]
theorem Er : ∀ {ps : List MemPlace} {rs : List (Nat × Nat × Nat)}, Mc ps = some rs → ps.Nodup ∧ ∀ b o, MemPlace.cell b o ∈ ps → rs.any (Dm b o) = true
  | [], rs, h => ⟨List.nodup_nil, fun _ _ hm => by cases hm⟩
  | .cell b o :: r, rs, h => by
    unfold Mc at h
    obtain ⟨q, hq, h⟩ := Option.bind_eq_some_iff.1 h
    obtain ⟨h1, h2⟩ := Er hq
    cases hc : q.any (Dm b o) with
    | true => rw [hc] at h; cases h
    | false =>
      rw [hc, cond_false] at h
      cases h
      refine ⟨List.nodup_cons.2 ⟨fun hm => (by rw [h2 b o hm] at hc; cases hc), h1⟩, fun c p hm => ?_⟩
      rcases List.mem_cons.1 hm with e | hm
      · cases e; exact Pz
      · exact Py (h2 c p hm)
  | .map _ :: _, rs, h => by cases h
theorem G5 {P : Program} {w : World} {l : List (String × DataW Unit)} (fuel : Nat) (h : (DataW.laidRun P w fuel (l.map (·.1))).map (·.1) = some l)
    (hr : (DataW.laidRun P w fuel (l.map (·.1))).map (fun x => (Mc x.2).isSome && laidRowsB P w x.2) = some true) : laidMet P l w := by
  cases hx : DataW.laidRun P w fuel (l.map (·.1)) with
  | none => simp [hx] at h
  | some x =>
    obtain ⟨l', ps⟩ := x
    simp only [hx, Option.map_some, Option.some.injEq] at h hr
    subst h
    simp only [Bool.and_eq_true] at hr
    obtain ⟨rs, hrs⟩ := Option.isSome_iff_exists.1 hr.1
    exact laidMet_of_run fuel hx (decide_eq_true (Er hrs).1) hr.2
end Go.LX
namespace Go.LX
structure dM where
  at_ : Int
  ok : Bool
deriving DecidableEq
end Go.LX
namespace Go.LX
open Go.RowKit Go.Proofs
section
variable {α β : Type} {N : GY α β} {R : jE β} {E Es T : TypeId} {w0 w w' : World} {M K A : BS} {hp : Nat → Chunk} {v u u' : Value} {us XV : List Value} {L L' : List α} {ss ss' : List (List β)} {s : List β} {x y : α} {k : Nat} {ho ho' : Nat → Prop} {C : Chunk}
theorem GJ {γ : Type} (P : Nat → γ → Prop) : ∀ (n : Nat), (∀ i, i < n → ∃ u, P i u) → ∃ us : List γ, us.length = n ∧ ∀ i u, us[i]? = some u → P i u
  | 0, _ => ⟨[], rfl, fun i u h => by cases h⟩
  | n + 1, h => by
    obtain ⟨us, h1, h2⟩ := GJ P n (fun i hi => h i (by omega))
    obtain ⟨u, hu⟩ := h n (by omega)
    refine ⟨us ++ [u], by simp [h1], fun i z hz => ?_⟩
    rw [List.getElem?_append] at hz
    split at hz
    · exact h2 i z hz
    · rename_i hl
      have : i - us.length = 0 := by
        rcases Nat.eq_zero_or_pos (i - us.length) with h0 | h0
        · exact h0
        · rw [List.getElem?_eq_none (by simp; omega)] at hz; cases hz
      rw [this] at hz
      cases hz
      obtain rfl : i = n := by omega
      exact hu
def hge (k : Nat) : Nat → Prop := fun i => k ≤ i
def Et {β : Type} (R : jE β) (k : Nat) (us : List Value) (ss : List (List β)) : Pce where
  own := BE
  P w A := ∀ i u s, k ≤ i → us[i]? = some u → ss[i]? = some s → fu R w A u s
  lt := fun _ h => h.elim
  go := fun h hk hK hKo hA i u s hi hu hs => fu.go (h i u s hi hu hs) hk hK (fun b hb hl => (hA b hb hl).elim id (fun h => h.elim))
theorem SH.famHo (h : SH w0 M K w hp) (j : Nat) (ho' : Nat → Prop) (hj : hp j = .gZ (dC R E ho us ss)) (h' : ∀ i, ho i ↔ ho' i) : SH w0 M K w (bH hp j (.gZ (dC R E ho' us ss))) := by
  have e : ho = ho' := funext fun i => propext (h' i)
  subst e
  exact h.Ar (S' := dC R E ho us ss) j hj (h.KL j hj) (aI.refl _ _) (fun b hb _ => hb)
theorem SH.thaw {R' : jE α} (h : SH w0 M K w hp) (i j q : Nat) (hi : hp i = .own R' E v L) (hij : i ≠ j) (hiq : i ≠ q) (hjq : j ≠ q) (hsz : R'.sz = N.sz) (op : ∀ w A cs x, R'.rd w A cs x → ∃ u, cs = N.enc x u ∧ fu R w A u (N.sub x)) :
    ∃ us, us.length = L.length ∧ SH w0 M K w (bH (bH (bH hp i (.own N.raw E v (L.zip us))) j (.gZ (dC R Es (hge 0) us (L.map N.sub)))) q (.gZ (Et R 0 us (L.map N.sub)))) := by
  have ho := h.dD i hi
  have ho2 := ho
  obtain ⟨xs, h1, h2⟩ := ho
  obtain ⟨us, hl, hus⟩ := GJ (fun i u => ∃ hi : i < L.length, (xs.drop (i * R'.sz)).take R'.sz = N.enc L[i] u ∧ fu R w (fun b => SH.A M hp b ∨ ob v b) u (N.sub L[i])) L.length (fun i hi => by
    obtain ⟨u, e1, e2⟩ := op _ _ _ _ (h2 i hi)
    exact ⟨u, hi, e1, e2⟩)
  refine ⟨us, hl, ?_⟩
  have s1 : SH w0 M K w (bH hp i (.own N.raw E v (L.zip us))) := by
    refine h.step i (aI.refl BE w) (fun _ h => h.elim) (fun b hb _ => by rw [hi]; exact hb) ⟨xs, ?_, ?_⟩
    · rw [dR hl]
      show w.ownsRow 0 E N.sz v L.length xs
      rw [← hsz]; exact h1
    · intro q hq
      have hq1 : q < L.length := by rw [dR hl] at hq; exact hq
      have hq2 : q < us.length := by omega
      obtain ⟨_, e1, e2⟩ := hus q us[q] (List.getElem?_eq_getElem hq2)
      refine ⟨?_, ?_⟩
      · show (xs.drop (q * N.sz)).take N.sz = N.enc ((L.zip us)[q]).1 ((L.zip us)[q]).2
        rw [List.getElem_zip, ← hsz]; exact e1
      · rw [List.getElem_zip]; exact e2.one
  have hnone : ∀ b, ¬ xc (hge 0) us b := fun b ⟨i, u, _, hn, _⟩ => hn (Nat.zero_le i)
  have s2 : SH w0 M K w (bH (bH hp i (.own N.raw E v (L.zip us))) j (.gZ (dC R Es (hge 0) us (L.map N.sub)))) :=
    s1.know j (c := .gZ (dC R Es (hge 0) us (L.map N.sub))) (fun b hb => hnone b hb) ⟨by rw [List.length_map]; exact hl, fun i u s _ _ hn => absurd (Nat.zero_le i) hn, fun i j u v _ hn => absurd (Nat.zero_le i) hn⟩
  refine s2.know q (c := .gZ (Et R 0 us (L.map N.sub))) (fun b hb => hb) ?_
  intro p u s _ hu hs
  obtain ⟨hp', e1, e2⟩ := hus p u hu
  rw [List.getElem?_map, List.getElem?_eq_getElem hp'] at hs
  cases hs
  have hsub : ∀ b, (M b ∨ eQ (bH (bH hp i (.own N.raw E v (L.zip us))) j (.gZ (dC R Es (hge 0) us (L.map N.sub)))) b) → SH.A M hp b ∨ ob v b := by
    rintro b (hb | ⟨c, hc⟩)
    · exact .inl (.inl hb)
    · by_cases e : c = j
      · subst e; rw [bI] at hc; exact absurd hc (hnone b)
      · rw [di e] at hc
        by_cases e3 : c = i
        · subst e3; rw [bI] at hc; exact .inr hc
        · rw [di e3] at hc; exact .inl (.inr ⟨c, hc⟩)
  exact e2.sub (fun b hb _ => hsub b hb) (fun b hb _ => hsub b hb)
theorem SH.rdpAt (h : SH w0 M K w hp) (q : Nat) (hq : hp q = .gZ (Et R k us (L.map N.sub))) (hl : us.length = L.length) (hx : L[k]? = some x) : ∃ u, us[k]? = some u ∧ fu R w (SH.A M hp) u (N.sub x) := by
  obtain ⟨u, hu⟩ := Zf hl hx
  exact ⟨u, hu, h.U2 q hq k u _ (Nat.le_refl _) hu (by rw [List.getElem?_map, hx]; rfl)⟩
theorem SH.X0 (h : SH w0 M K w hp) (q : Nat) (hq : hp q = .gZ (Et R k us ss)) : SH w0 M K w (bH hp q (.gZ (Et R (k + 1) (us.set k u) (ss.set k s)))) := by
  have h0 := h.U2 q hq
  refine h.Ar (S' := Et R (k + 1) (us.set k u) (ss.set k s)) q hq ?_ (aI.refl _ _) (fun b hb _ => hb)
  intro i z t hi hz ht
  rw [List.getElem?_set_ne (by omega)] at hz ht
  exact h0 i z t (by omega) hz ht
theorem SH.X3 (h : SH w0 M K w hp) (j q m : Nat) (y : α) (hj : hp j = .gZ (dC R Es (hge k) us (L.map N.sub))) (hq : hp q = .gZ (Et R k us (L.map N.sub))) (hm : hp m = .own R Es u s) (hjq : j ≠ q) (hjm : j ≠ m) (hqm : q ≠ m) (hx : L[k]? = some x) (hu0 : us[k]? = some u') (hy : N.sub y = s) :
    SH w0 M K w (bH (bH (bH (bH (bH hp q (.gZ (Et R (k + 1) (us.set k u) ((L.map N.sub).set k s)))) j (.gZ (dC R Es (hge k) (us.set k u) ((L.map N.sub).set k s)))) m .no) j (.gZ (dC R Es (hge (k + 1)) (us.set k u) (((L.map N.sub).set k s).set k s)))) j (.gZ (dC R Es (hge (k + 1)) (us.set k u) ((L.set k y).map N.sub)))) := by
  have h1 := h.X0 (u := u) (s := s) q hq
  have hl := h.iM j hj
  have h2 := h1.U3 (XV := us.set k u) (ss' := (L.map N.sub).set k s) j (by rw [di hjq]; exact hj) (by simp [hl]) (fun i hi => by
    have : k ≠ i := fun e => hi (by subst e; exact Nat.le_refl _)
    rw [List.getElem?_set_ne this, List.getElem?_set_ne this]
    exact ⟨rfl, rfl⟩)
  have hkl := Fv hx
  have h3 := h2.Ir j m (k := k) (u := u) (s := s) (bI _ _ _) (by rw [di (fun e => hjm e.symm), di (fun e => hqm e.symm)]; exact hm) hjm (Sr hu0) (Nat.le_refl k) (hge (k + 1)) (fun i => ⟨fun hi => by
    rcases Nat.eq_or_lt_of_le (show k ≤ i from hi) with e | e
    · exact .inr e.symm
    · exact .inl e, fun hi => hi.elim (fun hi => Nat.le_of_succ_le hi) (fun e => by subst e; exact Nat.le_refl _)⟩) (fun hi => absurd hi (Nat.not_succ_le_self k))
  have e : ((L.map N.sub).set k s).set k s = (L.set k y).map N.sub := by rw [List.set_set, List.map_set, hy]
  have h4 := h3.U3 (XV := us.set k u) (ss' := (L.set k y).map N.sub) j (bI _ _ _) (by simp [hl]) (fun i hi => ⟨rfl, by rw [e]⟩)
  exact h4
theorem SH.Va (h : SH w0 M K w hp) (j : Nat) (hj : hp j = .gZ (dC R Es (hge k) us (L.map N.sub))) (hk : L.length ≤ k) : SH w0 M K w (bH hp j (.gZ (dC R Es hn us (L.map N.sub)))) := by
  have hl := h.iM j hj
  have hf := h.KL j hj
  have key : ∀ i (z : Value), us[i]? = some z → ¬ hge k i := fun i z hz hi => by
    have := Fv hz
    have : k ≤ i := hi
    omega
  refine h.Ar (S' := dC R Es hn us (L.map N.sub)) j hj ⟨hf.1, fun i z t hz ht _ => ?_, fun i j z v hij _ _ hz hv => hf.2.2 i j z v hij (key i z hz) (key j v hv) hz hv⟩ (aI.refl _ _) (fun b ⟨i, z, h1, _, h3⟩ _ => ⟨i, z, h1, key i z h1, h3⟩)
  refine (hf.2.1 i z t hz ht (key i z hz)).go (aI.refl BE w) (fun _ h => h.elim) (fun _ h => h.elim) (fun b hb _ => ?_)
  rcases hb with hb | ⟨i, z, h1, _, h3⟩
  · exact .inl (.inl hb)
  · exact .inl (.inr ⟨i, z, h1, key i z h1, h3⟩)
def hmv (mv : List Int) : Nat → Prop := fun i => (i : Int) ∈ mv
theorem SH.aad (h : SH w0 M K w hp) (j : Nat) (hj : hp j = .gZ (dC R Es hn us ss)) : SH w0 M K w (bH hp j (.gZ (dC R Es (hmv []) us ss))) :=
  h.famHo j (hmv []) hj (fun i => ⟨fun h => h.elim, fun h => by cases h⟩)
theorem SH.aae {mv : List Int} {kk : Int} (h : SH w0 M K w hp) (j m : Nat) (hj : hp j = .gZ (dC R Es (hmv mv) us (L.map N.sub))) (hm : hp m = .no) (hjm : j ≠ m) (h0 : 0 ≤ kk) (hk : L[kk.toNat]? = some x) (aaf : kk ∉ mv) :
    ∃ u, us[kk.toNat]? = some u ∧ SH w0 M K w (bH (bH hp j (.gZ (dC R Es (hmv (mv ++ [kk])) us (L.map N.sub)))) m (.own R Es u (N.sub x))) := by
  have hl := h.iM j hj
  obtain ⟨u, hu⟩ := Zf hl hk
  have e : ((kk.toNat : Nat) : Int) = kk := Int.toNat_of_nonneg h0
  refine ⟨u, hu, h.Rp j m hj hm hjm hu (by rw [List.getElem?_map, hk]; rfl) (fun h => aaf (by rw [← e]; exact h)) (hmv (mv ++ [kk])) (fun i => ?_)⟩
  unfold hmv
  rw [List.mem_append, List.mem_singleton]
  constructor
  · rintro (h | h)
    · exact .inl h
    · exact .inr (by omega)
  · rintro (h | h)
    · exact .inl h
    · exact .inr (by rw [h]; exact e)
theorem SH.Fx (h : SH w0 M K w hp) (i : Nat) (hk : Grow w w') (hf : C.Ij) (hC : C.holds w' (SH.A M hp) C.own') (hn : ∀ b, C.own' b → w.heap.size ≤ b) : SH w0 M K w' (bH hp i C) :=
  h.learn i hk hn (Chunk.re hf hC (fun b hb _ => by
    rcases hb with hb | hb | hb
    · exact .inl (.inl hb)
    · exact .inl (.inr hb)
    · exact .inr hb))
theorem Md (ho : ∀ b, C.own' b → b < w0.heap.size → BE b) : ∀ b, C.own' b → w0.heap.size ≤ b := fun b hb => Nat.le_of_not_lt (fun hl => ho b hb hl)
theorem X4 {R : jE β} : ∀ (w : World) (A : BS) cs (x : List β), (mP R).rd w A cs x → ∃ u, cs = (ed β).enc x u ∧ fu R w A u ((ed β).sub x) := fun _ _ _ _ h => h
end
theorem Fy : ∀ (w : World) (A : BS) cs (x : Frame), dB.rd w A cs x → ∃ u, cs = bR.enc x u ∧ fu bM w A u (bR.sub x) := fun _ _ _ _ h => h
def Av {α : Type} (k : Int) (v : α) : List (Int × α) → List (Int × α)
  | [] => [(k, v)]
  | p :: r => if k = p.1 then (p.1, v) :: r else p :: Av k v r
theorem CE {α : Type} {f : α → Value} {k : Int} {v : α} : ∀ (l : List (Int × α)), Ig (l.map fun p => (p.1, f p.2)) k (f v) = (Av k v l).map fun p => (p.1, f p.2)
  | [] => rfl
  | p :: r => by
    show (if k = p.1 then (p.1, f v) :: _ else (p.1, f p.2) :: Ig _ k (f v)) = _
    unfold Av
    split
    · rfl
    · rw [CE r]; rfl
theorem wV.keep {w w' : World} {K : BS} {b : Nat} {fK : List (Int × Value)} (h : wV w b fK) (hk : aI K w w') (hn : ¬ K b) : wV w' b fK := by
  obtain ⟨es, c, h1, h2, h3⟩ := h
  exact ⟨es, c, hk.blk h1 hn, h2, h3⟩
section
variable {P : Program} {w : World} {ρ : Operand → Value} {d : Option Nat} {ty : TypeId} {pos : String} {af : Array Edge} {g : Option (Nat × Bool)} {T : TypeId}
theorem aag {α : Type} {f : α → Value} {zz : α} {z : Value} {x y : Operand} {b : Nat} {k : Int} (l : List (Int × α)) (hb : wV w b (l.map fun p => (p.1, f p.2))) (hT : MapOf P T z) (hx : ρ x = .map (some b)) (hy : ρ y = .int .i64 k) (hz : z = f zz) :
    (execOp ρ ⟨d, .lookup T x y false, ty, pos, af, g⟩).run P w = .ok (.value (f ((lk k l).getD zz))) w := by
  have := Nr (d := d) (ty := ty) (pos := pos) (af := af) (g := g) hT hx hy hb
  rw [hz, HV] at this
  exact this
end
end Go.LX
namespace Go.LX
open Go.RowKit Go.Proofs Go.MapKept
section
variable {P : Program} {ops : Array Oper} {Q : Exit → Act → World → Prop} {n : Nat} {env : Nat → Value} {w w' w0 : World} {M K : BS} {hp : Nat → Chunk} {rest : List Oper}
  {d : Option Nat} {op : Op} {ty : TypeId} {pos : String} {af : Array Edge} {v : Value} {g : Option (Nat × Bool)} {T : TypeId} {ρ : Operand → Value}
theorem Sv (zs : List Value) (m q : Nat) (hq : q < m) : ((madeCells zs.toArray (m * zs.length)).toList.drop (q * zs.length)).take zs.length = zs := by
  apply List.ext_getElem?
  intro i
  rw [List.getElem?_take]
  split
  · rename_i hi
    rw [List.getElem?_drop]
    have h1 : q * zs.length + i < m * zs.length := by
      have := Nat.mul_le_mul_right zs.length (show q + 1 ≤ m from hq)
      rw [Nat.succ_mul] at this
      omega
    have h2 : (q * zs.length + i) % zs.length = i := by rw [Nat.mul_comm, Nat.mul_add_mod]; exact Nat.mod_eq_of_lt hi
    simp [madeCells, h1, h2, hi]
  · rename_i hi
    rw [List.getElem?_eq_none (by omega)]
theorem zl {α : Type} {R : jE α} {E : TypeId} {bytes sz : Nat} {k : Int} {zs : List Value} {x y : Operand} {a : α} (h : SH w0 M K w hp) (i : Nat) (hT : oh P T E sz bytes) (hz : wJ P E zs) (hs : R.sz = sz) (hb : 0 < bytes) (hx : ev n env x = .int .i64 k) (hy : ev n env y = .int .i64 k)
    (hk : 0 ≤ k ∧ k * bytes ≤ 140737488355328) (hl : zs.length = sz) (ha : ∀ w A, R.rd w A zs a)
    (kk : ∀ w' u, SH w0 M K w' (bH hp i (.own R E u (List.replicate k.toNat a))) → Grow w w' → (∀ b, ob u b → w.heap.size ≤ b) → WL P ops Q rest n (jJ env d u) w') :
    WL P ops Q (⟨d, .makeSlice T x y, ty, pos, af, none⟩ :: rest) n env w := by
  obtain ⟨h0, h1⟩ := hk
  obtain ⟨m, rfl⟩ := Int.eq_ofNat_of_zero_le h0
  obtain ⟨j, z', hi, hz', hsz, hby, hzs⟩ := hT.info
  have hzz := hz.info
  rw [hi] at hzz
  simp only [Option.map_some, Option.some.injEq, Prod.mk.injEq] at hzz
  have hle : m ≤ m * bytes := Nat.le_mul_of_pos_right _ hb
  have h1' : m * bytes ≤ 140737488355328 := by
    have : ((m * bytes : Nat) : Int) ≤ 140737488355328 := by rw [Int.natCast_mul]; exact h1
    omega
  obtain ⟨w', hr, ho, hg⟩ := run_make_full (P := P) w 0 T E j _ sz hT.desc hi hzz.1 hsz .i64 .i64 m (by rw [hby, Nat.mul_comm]; omega) (by unfold maxLen; omega) (Nat.zero_le _)
  have hg' : Grow w w' := (Bd (v := .slice none 0 0) hg).weaken (fun _ h _ => h.elim)
  have hrun : (execOp (ev n env) ⟨d, .makeSlice T x y, ty, pos, af, none⟩).run P w = .ok (.value (.slice (some ⟨w.heap.size, 0, none⟩) m m)) w' := by
    simp only [execOp, Sem.run_bind, Sem.run_pure, Result.andThen_ok, hx, hy, hr]
  have hnew : ∀ b, ob (.slice (some ⟨w.heap.size, 0, none⟩) m m) b → w.heap.size ≤ b := fun b hb => by
    have : b = w.heap.size := hb
    omega
  refine aa hrun (kk w' _ (h.jO i hg' ⟨(madeCells zs.toArray (m * sz)).toList, ?_, ?_⟩ hnew) hg' hnew)
  · rw [hs]
    rw [List.length_replicate]
    exact ho
  · intro q hq
    simp only [List.length_replicate] at hq
    have hq' : q < m := hq
    have e : ((madeCells zs.toArray (m * sz)).toList.drop (q * R.sz)).take R.sz = zs := by rw [hs, ← hl]; exact Sv zs m q hq'
    rw [e]
    simp only [List.getElem_replicate]
    exact ha _ _
end
end Go.LX
namespace Go.LX
open Go.RowKit Go.Proofs
section
variable {α β : Type} {N : GY α β} {R : jE β} {E Es T : TypeId} {w0 w w' : World} {M K A : BS} {hp : Nat → Chunk} {u u' : Value} {us : List Value} {L : List α} {s : List β} {x : α} {k : Nat}
theorem KN {γ : Type} {l : List γ} {z : γ} {i : Int} (hi : i = (k : Int)) (h : l[i.toNat]? = some z) : l[k]? = some z := by subst hi; simpa using h
theorem Zh {γ : Type} {l : List γ} {z : γ} {i : Int} (hi : i = (k : Int)) (h : l[k]? = some z) : l[i.toNat]? = some z := by subst hi; simpa using h
theorem Vb {i : Int} (hi : i = (k : Int)) : i.toNat = k := by subst hi; simp
theorem SH.Nz (h : SH w0 M K w hp) (j q m : Nat) (hj : hp j = .gZ (dC R Es (hge k) us (L.map N.sub))) (hq : hp q = .gZ (Et R k us (L.map N.sub))) (hm : hp m = .own R Es u s) (hjq : j ≠ q) (hjm : j ≠ m) (hqm : q ≠ m) (hx : L[k]? = some x) (hu0 : us[k]? = some u') (hy : N.sub x = s) :
    SH w0 M K w (bH (bH (bH (bH (bH hp q (.gZ (Et R (k + 1) (us.set k u) (L.map N.sub)))) j (.gZ (dC R Es (hge k) (us.set k u) (L.map N.sub)))) m .no) j (.gZ (dC R Es (hge (k + 1)) (us.set k u) (L.map N.sub)))) j (.gZ (dC R Es (hge (k + 1)) (us.set k u) (L.map N.sub)))) := by
  have h1 := h.X3 (y := x) j q m hj hq hm hjq hjm hqm hx hu0 hy
  have e : (L.map N.sub).set k s = L.map N.sub := by rw [← hy, ← List.map_set, BI hx]
  rw [e, e, BI hx] at h1
  exact h1
end
theorem zm {α : Type} {b : Nat} {a r : List α} (h : clone b a = some r) : a = r := by
  unfold clone at h
  obtain ⟨_, h⟩ := bg h
  exact Option.some.inj h
theorem PD {α β : Type} {N : GY α β} {w : World} {B A : BS} {v : Value} {L : List α} {us : List Value} (h : gB N.raw w B A v (L.zip us)) (hl : us.length = L.length) : L.length ≤ 9223372036854775807 := by
  have := h.bV
  rwa [dR hl] at this
theorem r_mul {P : Program} {w : World} {ρ : Operand → Value} {d : Option Nat} {ty : TypeId} {pos : String} {af : Array Edge} {g : Option (Nat × Bool)} {x y : Operand} {T T2 : TypeId} {p q : Int} (hx : ρ x = .int .i64 p) (hy : ρ y = .int .i64 q) (h : -9223372036854775808 ≤ p * q ∧ p * q ≤ 9223372036854775807) :
    (execOp ρ ⟨d, .binOp .mul T x y T2, ty, pos, af, g⟩).run P w = .ok (.value (.int .i64 (p * q))) w := by
  simp [execOp, hx, hy, eqGuard, binOp, Op.intArith, LJ h.1 h.2]
end Go.LX
namespace Go.LX
open Go.RowKit Go.Proofs
theorem HY {cs vs : List Value} {o : Nat} (h : o + vs.length ≤ cs.length) (j : Nat) : (Ej cs o vs)[j]? = if j < o then cs[j]? else if j < o + vs.length then vs[j - o]? else cs[j]? := by
  unfold Ej
  have ht : (cs.take o).length = o := by rw [List.length_take]; omega
  by_cases h1 : j < o
  · rw [if_pos h1, List.append_assoc, List.getElem?_append_left (by omega), List.getElem?_take, if_pos h1]
  · rw [if_neg h1]
    by_cases h2 : j < o + vs.length
    · rw [if_pos h2, List.append_assoc, List.getElem?_append_right (by omega), ht, List.getElem?_append_left (by omega)]
    · rw [if_neg h2, List.getElem?_append_right (by rw [List.length_append, ht]; omega), List.length_append, ht, List.getElem?_drop]
      congr 1
      omega
theorem Rs {cs vs : List Value} {o : Nat} (h : o + vs.length ≤ cs.length) : (Ej cs o vs).length = cs.length := by
  unfold Ej
  simp only [List.length_append, List.length_take, List.length_drop]
  omega
theorem Vd {cs vs : List Value} {o n : Nat} (h : o + vs.length ≤ n) (hn : n ≤ cs.length) : (Ej cs o vs).take n = Ej (cs.take n) o vs := by
  apply List.ext_getElem?
  intro j
  have hl : (cs.take n).length = n := by rw [List.length_take]; omega
  rw [List.getElem?_take, HY (by omega), HY (by omega), List.getElem?_take]
  by_cases h1 : j < n
  · rw [if_pos h1, if_pos h1]
  · rw [if_neg h1, if_neg (by omega), if_neg (by omega), if_neg h1]
theorem Ve {cs vs : List Value} {o : Nat} (h : o + vs.length ≤ cs.length) : ((Ej cs o vs).drop o).take vs.length = vs := by
  apply List.ext_getElem?
  intro j
  rw [List.getElem?_take, List.getElem?_drop, HY h]
  by_cases h1 : j < vs.length
  · rw [if_pos h1, if_neg (by omega), if_pos (by omega)]
    congr 1
    omega
  · rw [if_neg h1, List.getElem?_eq_none (by omega)]
theorem Sw {cs vs : List Value} {o p s : Nat} (h : o + vs.length ≤ cs.length) (hp : p + s ≤ o ∨ o + vs.length ≤ p) : ((Ej cs o vs).drop p).take s = (cs.drop p).take s := by
  apply List.ext_getElem?
  intro j
  rw [List.getElem?_take, List.getElem?_drop, HY h, List.getElem?_take, List.getElem?_drop]
  by_cases h1 : j < s
  · rw [if_pos h1, if_pos h1]
    by_cases h2 : p + j < o
    · rw [if_pos h2]
    · rw [if_neg h2, if_neg (by omega)]
  · rw [if_neg h1, if_neg h1]
section
variable {P : Program} {ops : Array Oper} {Q : Exit → Act → World → Prop} {n : Nat} {env : Nat → Value} {w w' w0 : World} {M K : BS} {hp : Nat → Chunk} {rest : List Oper}
  {d : Option Nat} {op : Op} {ty : TypeId} {pos : String} {af : Array Edge} {v : Value} {g : Option (Nat × Bool)} {T : TypeId} {ρ : Operand → Value} {x y : Operand}
theorem yM {α : Type} {R : jE α} {E : TypeId} {sz : Nat} {l : List α} {k : Int} {a a' : α} {b : Nat} {zs vs : List Value} {u : Value} (h : SH w0 M K w hp) (i : Nat) (hi : hp i = .own R E u l) (hb : ob u b) (hs : R.sz = sz) (hk : l[k.toNat]? = some a) (hT : wJ P T zs) (hx : ev n env x = .pointer (some ⟨b, k.toNat * sz, none⟩))
    (hy : ev n env y = .agg vs.toArray) (hl : vs.length = zs.length) (hlz : zs.length = sz) (hset : R.rd w (SH.A M hp) vs a')
    (kk : ∀ w', SH w0 M K w' (bH hp i (.own R E u (l.set k.toNat a'))) → aI (ob u) w w' → WL P ops Q rest n (jJ env d undef) w') :
    WL P ops Q (⟨d, .store T x y, ty, pos, af, none⟩ :: rest) n env w := by
  subst hs
  have hkl : k.toNat < l.length := Fv hk
  generalize k.toNat = k at *
  have hown : ∀ b, ob u b → SH.A M hp b := fun b hb => .inr ⟨i, by rw [hi]; exact hb⟩
  obtain ⟨xs, q1, q3⟩ := h.dD i hi
  rcases q1.2 with ⟨rfl, hn⟩ | ⟨g', cap, cur, rfl, e1, e2, e3, e4, e5, e6⟩
  · omega
  have hgb : b = g' := hb
  subst hgb
  have hle : (k + 1) * R.sz ≤ l.length * R.sz := Nat.mul_le_mul_right _ hkl
  have hcl : l.length * R.sz ≤ cap * R.sz := Nat.mul_le_mul_right _ e3
  rw [Nat.add_mul] at hle
  have hvs : vs.length = R.sz := hl.trans hlz
  have hcs : cur.toList.length = cap * R.sz := by simpa using e5
  have hxl : xs.length = l.length * R.sz := q1.1
  have hoc : k * R.sz + vs.length ≤ cur.toList.length := by omega
  have hox : k * R.sz + vs.length ≤ xs.length := by omega
  have hk2 := aI.qW w b (.cells (Ej cur.toList (k * R.sz) vs).toArray E (0, 0))
  have hst := Ic (P := P) (w := w) (ρ := ev n env) (d := d) (ty := ty) (pos := pos) (af := af) (g := none) (cs := cur.toList) (E := E) hT hx (by simpa using e2) hy hl hoc (R.one hset)
  refine tJ hst (kk _ (h.step i hk2 (fun x hx _ => by rw [hi]; exact hx) (fun x hx _ => by rw [hi]; exact hx) ⟨Ej xs (k * R.sz) vs, ⟨?_, .inr ⟨b, cap, (Ej cur.toList (k * R.sz) vs).toArray, ?_, e1, ?_, ?_, e4, ?_, ?_⟩⟩, ?_⟩) (hk2.weaken (fun x hx _ => hx)))
  · rw [Rs hox, List.length_set]; exact q1.1
  · rw [List.length_set]
  · rw [tL (gK e2)]
  · rw [List.length_set]; exact e3
  · rw [List.size_toArray, Rs hoc]; exact hcs
  · rw [List.length_set]
    show (Ej cur.toList (k * R.sz) vs).take (l.length * R.sz) = Ej xs (k * R.sz) vs
    rw [Vd (by omega) (by omega), e6]
  · intro i' hi'
    have hi2 : i' < l.length := by rwa [List.length_set] at hi'
    have hgo := fun cs a (h : R.rd w (SH.A M hp) cs a) => R.go (A' := fun x => (M x ∨ (SH.av hp i (.own R E (.slice (some ⟨b, 0, none⟩) l.length cap) (l.set k a'))) x) ∨ ob (.slice (some ⟨b, 0, none⟩) l.length cap) x) h hk2 (fun x hx _ => hown x hx) (fun x hx _ => by
      rcases hx with (hx | hx | hx) | hx
      · exact .inl hx
      · exact .inr (iW hx)
      · exact hown x hx
      · exact hown x hx)
    have hq := fun j (hj : j < l.length) => R.go (A' := SH.A M hp) (q3 j hj) (aI.refl BE w) (fun _ h => h.elim) (fun x hx _ => .inl hx)
    by_cases hik : i' = k
    · subst hik
      rw [List.getElem_set_self]
      have e := Ve hox
      rw [hvs] at e
      rw [e]
      exact hgo _ _ hset
    · rw [List.getElem_set_ne (Ne.symm hik), Sw hox]
      · exact hgo _ _ (hq i' hi2)
      · rcases Nat.lt_or_ge k i' with h5 | h5
        · right
          have : (k + 1) * R.sz ≤ i' * R.sz := Nat.mul_le_mul_right _ h5
          rw [Nat.add_mul] at this
          omega
        · left
          have : (i' + 1) * R.sz ≤ k * R.sz := Nat.mul_le_mul_right _ (by omega)
          rw [Nat.add_mul] at this
          omega
end
section
variable {α β : Type} {N : GY α β} {R : jE β} {E Es T : TypeId} {w0 w w' : World} {M K A : BS} {hp : Nat → Chunk} {us : List Value} {L : List α} {x : α} {k : Nat}
theorem SH.rT (h : SH w0 M K w hp) (j m : Nat) (s : List β) (hj : hp j = .gZ (dC R Es hn us (L.map N.sub))) (hm : hp m = .no) (hjm : j ≠ m) (hk : L[k]? = some x) (hs : N.sub x = s) :
    ∃ u, us[k]? = some u ∧ SH w0 M K w (bH (bH hp j (.gZ (dC R Es (hat k) us (L.map N.sub)))) m (.own R Es u s)) := by subst hs; exact h.Z8 j m hj hm hjm hk
theorem SH.X5 {mv : List Int} {kk : Int} (h : SH w0 M K w hp) (j m : Nat) (s : List β) (hj : hp j = .gZ (dC R Es (hmv mv) us (L.map N.sub))) (hm : hp m = .no) (hjm : j ≠ m) (h0 : 0 ≤ kk) (hk : L[kk.toNat]? = some x) (aaf : kk ∉ mv) (hs : N.sub x = s) :
    ∃ u, us[kk.toNat]? = some u ∧ SH w0 M K w (bH (bH hp j (.gZ (dC R Es (hmv (mv ++ [kk])) us (L.map N.sub)))) m (.own R Es u s)) := by subst hs; exact h.aae j m hj hm hjm h0 hk aaf
theorem SH.Vf (h : SH w0 M K w hp) (q : Nat) (s : List β) (hq : hp q = .gZ (Et R k us (L.map N.sub))) (hl : us.length = L.length) (hx : L[k]? = some x) (hs : N.sub x = s) : ∃ u, us[k]? = some u ∧ fu R w (SH.A M hp) u s := by subst hs; exact h.rdpAt q hq hl hx
end
end Go.LX
namespace Go.LX
open Go.RowKit Go.Proofs
def Chunk.flat : Chunk → Prop
  | .no => True
  | .own R _ _ _ => ∀ w A A' cs x, R.rd w A cs x → R.rd w A' cs x
  | .two a b => a.flat ∧ b.flat
  | .gZ S => ∀ w A A', S.P w A → S.P w A'
  | _ => False
theorem dW.flat {α : Type} {R : jE α} {E : TypeId} {w : World} {A A' : BS} {v : Value} {l : List α} (hR : ∀ w A A' cs x, R.rd w A cs x → R.rd w A' cs x) (h : dW R E w A v l) : dW R E w A' v l := by
  obtain ⟨xs, h1, h2⟩ := h
  exact ⟨xs, h1, fun i hi => hR _ _ _ _ _ (h2 i hi)⟩
theorem Chunk.flatten {c : Chunk} {w : World} {M O M' O' : BS} (hf : c.flat) (h : c.holds w M O) : c.holds w M' O' := by
  induction c with
  | no => trivial
  | own R E v l => exact dW.flat hf h
  | two a b ha hb => exact ⟨ha hf.1 h.1, hb hf.2 h.2.1, h.2.2⟩
  | gZ S => exact hf _ _ _ h
  | _ => exact hf.elim
theorem CF {β : Type} {R : jE β} {E : TypeId} {ho : Nat → Prop} {us : List Value} {ss : List (List β)} (hR : ∀ w A A' cs x, R.rd w A cs x → R.rd w A' cs x) : ∀ w A A', (dC R E ho us ss).P w A → (dC R E ho us ss).P w A' := by
  rintro w A A' ⟨h1, h2, h3⟩
  exact ⟨h1, fun i u s hu hs hi => dW.flat hR (h2 i u s hu hs hi), h3⟩
theorem gB.aah {α : Type} {R : jE α} {w : World} {B A : BS} {v : Value} {l : List α} (h : gB R w B A v l) : gB R w BE BE v l :=
  gB.go h (aI.refl BE w) (fun _ h => h.elim) (fun _ h => h.elim) (fun _ h => h.elim) (fun _ h => h.elim)
section
variable {α β : Type} {N : GY α β} {R : jE β} {E Es T : TypeId} {w0 w w' : World} {M K A : BS} {hp : Nat → Chunk} {v u u' : Value} {us XV : List Value} {L L' : List α}
theorem SH.rf {R' : jE α} (h : SH w0 M K w hp) (i j : Nat) (hi : hp i = .own N.raw E v (L.zip us)) (hj : hp j = .gZ (dC R Es hn us (L.map N.sub))) (hij : i ≠ j) (hsz : R'.sz = N.sz) (br : ∀ w A x u, fu R w A u (N.sub x) → R'.rd w A (N.enc x u) x) : gB R' w BE BE v L :=
  gB.aah ((h.ny i j hi hj hij hsz br).fo i (bI _ _ _))
theorem SH.Zi {C : Chunk} {O : BS} (h : SH w0 M K w hp) (i : Nat) (hk : Grow w w') (hf : C.Ij) (hfl : C.flat) (hC : C.holds w' BE O) (hn : ∀ b, C.own' b → w.heap.size ≤ b) : SH w0 M K w' (bH hp i C) :=
  h.Fx i hk hf (Chunk.flatten hfl hC) hn
end
section
variable {P : Program} {Q : Exit → Act → World → Prop} {n : Nat} {env : Nat → Value} {w w' w0 : World} {M K : BS} {hp : Nat → Chunk}
theorem Eu {fn : Func} {R : Ending → World → Prop} {t u u4 a : Tmp} {T : TypeId} {v2 v3 v4 : Value} {zs vs : List Value} {b : Nat} (hr : fn.results = #[.cell a T, .tmp t, .tmp u, .tmp u4]) (ha : ev n env (.tmp a) = .pointer (some ⟨b, 0, none⟩)) (h1 : ev n env (.tmp t) = v2) (h2 : ev n env (.tmp u) = v3) (h4 : ev n env (.tmp u4) = v4)
    (h0 : SH w0 M K w hp) (i : Nat) (hi : hp i = .blk b vs) (hT : wJ P T zs) (hl : vs.length = zs.length) (h : R (.returned (.tuple #[.agg vs.toArray, v2, v3, v4])) w) : bodyPost P fn R .ret (act n env) w := by
  refine ⟨rfl, _, ?_, h⟩
  have e1 := congrFun (gD n env) (.tmp t)
  have e2 := congrFun (gD n env) (.tmp u)
  have e4 := congrFun (gD n env) (.tmp u4)
  have e3 := congrFun (gD n env) (.tmp a)
  rw [h1] at e1
  rw [h2] at e2
  rw [h4] at e4
  rw [ha] at e3
  simp only [Act.eval] at e1 e2 e3 e4
  rw [Array.getD_eq_getD_getElem?] at e1 e2 e3 e4
  have hl2 := Ao (P := P) h0 hi hT hl rfl
  unfold results
  rw [hr]
  simp [e1, e2, e3, e4, asAddr, hl2]
end
end Go.LX
namespace Go.LX
structure Dv where
  said : Bool
  n : Int
  Fz : Bool
end Go.LX
namespace Go.Proofs
set_option maxHeartbeats 1000000 in
set_option maxRecDepth 100000 in
theorem Tryz.stringslite_IndexByte (s : ByteArray) (c : Int) (w : World) :
    Calls Tryz.prog 169 #[.string s, .int .u8 c] w fun e w' => e = .returned (.int .i64 (Lib.indexByte s.data.toList c.toNat.toUInt8)) ∧ w' = w := by
  go_enter Tryz.func169, Tryz.ntmps169
  go_wp2
  rw [run_callFunc_extern Tryz.func181 (by kernel_rfl) (by kernel_rfl) (by kernel_rfl) (e := Extern.BytealgIndexByte.indexByte) (by kernel_rfl), Lib.run_indexByteString]
  simp only [Result.andThen]
  rw [Oper.upon_value]
  go_wp2
  go_ret
  exact ⟨rfl, rfl⟩
end Go.Proofs
namespace Go.Proofs
set_option maxHeartbeats 2000000 in
set_option maxRecDepth 100000 in
theorem Tryz.stringslite_Index_one (s : ByteArray) (c : UInt8) (w : World) :
    Calls Tryz.prog 157 #[.string s, .string ⟨#[c]⟩] w fun e w' => e = .returned (.int .i64 (Lib.indexByte s.data.toList c)) ∧ w' = w := by
  go_enter Tryz.func157, Tryz.ntmps157
  go_wp2_with (go_at_call 169; refine (Tryz.stringslite_IndexByte _ _ _).mono ?_; rintro e w' ⟨rfl, rfl⟩)
  · have h : ([c] == s.toList) = true := by assumption
    go_ret
    refine ⟨?_, rfl⟩
    have e : s.data.toList = [c] := by rw [← Lib.toList_data]; exact (beq_iff_eq.1 h).symm
    rw [e]
    simp [Lib.indexByte]
  · go_ret
    exact ⟨rfl, rfl⟩
end Go.Proofs
namespace Go.Proofs
set_option maxHeartbeats 1000000 in
theorem Tryz.strings_Index_one (s : ByteArray) (c : UInt8) (w : World) :
    Calls Tryz.prog 135 #[.string s, .string ⟨#[c]⟩] w fun e w' => e = .returned (.int .i64 (Lib.indexByte s.data.toList c)) ∧ w' = w := by
  go_enter Tryz.func135, Tryz.ntmps135
  go_wp2_with (go_at_call 157; refine (Tryz.stringslite_Index_one _ _ _).mono ?_; rintro e w' ⟨rfl, rfl⟩)
  go_ret
  exact ⟨rfl, rfl⟩
end Go.Proofs
namespace Go.Proofs
set_option maxHeartbeats 1000000 in
theorem Tryz.strings_Contains_one (s : ByteArray) (c : UInt8) (w : World) :
    Calls Tryz.prog 145 #[.string s, .string ⟨#[c]⟩] w fun e w' => e = .returned (.bool (decide (0 ≤ Lib.indexByte s.data.toList c))) ∧ w' = w := by
  go_enter Tryz.func145, Tryz.ntmps145
  go_wp2_with (go_at_call 135; refine (Tryz.strings_Index_one _ _ _).mono ?_; rintro e w' ⟨rfl, rfl⟩)
  go_ret
  exact ⟨rfl, rfl⟩
end Go.Proofs
namespace Go.Proofs
open Go.Shelf
def Tryz.NA : Go.Shelf.Ren := ⟨fun | 146 => 101 | 221 => 121 | 268 => 133 | 138 => 134 | 143 => 135 | 195 => 154 | 197 => 155 | 218 => 156 | 219 => 157 | 260 => 168 | 217 => 169 | 225 => 170 | 224 => 171 | 267 => 172 | 266 => 181 | 314 => 182 | n => n, fun | 9 => 9 | 31 => 153 | 3 => 3 | 4 => 4 | 0 => 0 | 105 => 215 | 21 => 21 | 5 => 5 | 46 => 221 | 119 => 182 | 139 => 257 | 138 => 256 | 146 => 258 | 51 => 201 | n => n, fun | 1 => 4 | 3 => 5 | 4 => 6 | n => n⟩
theorem Tryz.X6 : Go.Proofs.Lays.n146 Tryz.prog Tryz.NA := {
  mixed := by kernel_rfl
  f138 := Tryz.func134.trans (congrArg some (by kernel_rfl))
  f143 := Tryz.func135.trans (congrArg some (by kernel_rfl))
  f146 := Tryz.func101.trans (congrArg some (by kernel_rfl))
  f195 := Tryz.func154.trans (congrArg some (by kernel_rfl))
  f197 := Tryz.func155.trans (congrArg some (by kernel_rfl))
  f217 := Tryz.func169.trans (congrArg some (by kernel_rfl))
  f218 := Tryz.func156.trans (congrArg some (by kernel_rfl))
  f219 := Tryz.func157.trans (congrArg some (by kernel_rfl))
  f221 := Tryz.func121.trans (congrArg some (by kernel_rfl))
  f224 := Tryz.func171.trans (congrArg some (by kernel_rfl))
  f225 := Tryz.func170.trans (congrArg some (by kernel_rfl))
  f260 := Tryz.func168.trans (congrArg some (by kernel_rfl))
  f266 := Tryz.func181.trans (congrArg some (by kernel_rfl))
  f267 := Tryz.func172.trans (congrArg some (by kernel_rfl))
  f268 := Tryz.func133.trans (congrArg some (by kernel_rfl))
  f314 := Tryz.func182.trans (congrArg some (by kernel_rfl))
  t0 := Tryz.underlying0
  a0 := Tryz.isAgg0
  z0 := Tryz.sizeOf0
  v0 := Tryz.zeroValue0
  t3 := Tryz.underlying3
  a3 := Tryz.isAgg3
  z3 := Tryz.sizeOf3
  v3 := Tryz.zeroValue3
  t4 := Tryz.underlying4
  a4 := Tryz.isAgg4
  z4 := Tryz.sizeOf4
  v4 := Tryz.zeroValue4
  t5 := Tryz.underlying5
  a5 := Tryz.isAgg5
  z5 := Tryz.sizeOf5
  v5 := Tryz.zeroValue5
  t9 := Tryz.underlying9
  a9 := Tryz.isAgg9
  z9 := Tryz.sizeOf9
  v9 := Tryz.zeroValue9
  t21 := Tryz.underlying21
  a21 := Tryz.isAgg21
  z21 := Tryz.sizeOf21
  v21 := Tryz.zeroValue21
  t31 := Tryz.underlying153
  a31 := Tryz.isAgg153
  z31 := Tryz.sizeOf153
  v31 := Tryz.zeroValue153
  t46 := Tryz.underlying221
  a46 := Tryz.isAgg221
  z46 := Tryz.sizeOf221
  v46 := Tryz.zeroValue221
  t51 := Tryz.underlying201
  a51 := Tryz.isAgg201
  z51 := Tryz.sizeOf201
  v51 := Tryz.zeroValue201
  t105 := Tryz.underlying215
  a105 := Tryz.isAgg215
  z105 := Tryz.sizeOf215
  v105 := Tryz.zeroValue215
  t119 := Tryz.underlying182
  a119 := Tryz.isAgg182
  z119 := Tryz.sizeOf182
  t138 := Tryz.underlying256
  a138 := Tryz.isAgg256
  z138 := Tryz.sizeOf256
  v138 := Tryz.zeroValue256
  t139 := Tryz.underlying257
  a139 := Tryz.isAgg257
  z139 := Tryz.sizeOf257
  v139 := Tryz.zeroValue257
  t146 := Tryz.underlying258
  a146 := Tryz.isAgg258
  z146 := Tryz.sizeOf258
  v146 := Tryz.zeroValue258
  g1 := by kernel_rfl
  g3 := by kernel_rfl
  g4 := by kernel_rfl }
open Go.RowKit Go.Lib in
theorem Tryz.strings_Split (s sep : ByteArray) (m : Int) (w : World) (hs : s.size < 4294967281) (hm : w.cell? ⟨4, 0, none⟩ = some (.int .i64 m)) (h1 : 1 ≤ sep.size) :
    Calls Tryz.prog 101 #[.string s, .string sep] w fun e w' =>
      e = .returned (.slice (some ⟨w.heap.size, 0, none⟩) (Lib.countB s sep + 1) (Lib.countB s sep + 1)) ∧ w' = w.alloc (.cells ((Lib.splitB sep 0 (Lib.countB s sep) s).map Value.string).toArray 9) := Any.strings_Split Tryz.X6 (by kernel_rfl) s sep m w hs hm h1
def Tryz.Me : Go.Shelf.Ren := ⟨fun | 172 => 102 | 244 => 122 | 245 => 123 | 247 => 136 | 279 => 137 | 280 => 138 | 281 => 139 | 282 => 140 | 287 => 158 | 316 => 159 | 171 => 125 | 205 => 160 | 321 => 173 | 322 => 174 | 243 => 142 | 246 => 161 | 283 => 175 | 284 => 176 | 285 => 177 | 286 => 178 | 129 => 184 | 317 => 183 | 318 => 185 | 319 => 186 | 320 => 187 | 337 => 188 | 338 => 189 | n => n, fun | 9 => 9 | 3 => 3 | 75 => 156 | 76 => 157 | 4 => 4 | 5 => 5 | 167 => 190 | 37 => 191 | 0 => 0 | 85 => 192 | 2 => 2 | 168 => 194 | 53 => 218 | 175 => 219 | 46 => 221 | 210 => 224 | 127 => 239 | 145 => 244 | 143 => 242 | 21 => 21 | 171 => 245 | 173 => 248 | 212 => 261 | 51 => 201 | 20 => 20 | 213 => 262 | 232 => 265 | 233 => 266 | 80 => 159 | n => n, fun | 15 => 2 | 16 => 3 | 17 => 7 | 18 => 8 | 19 => 9 | n => n⟩
theorem Tryz.Iy : Go.Proofs.LaysC.n172 Tryz.prog Tryz.Me := {
  mixed := by kernel_rfl
  f129 := Tryz.func184.trans (congrArg some (by kernel_rfl))
  f171 := Tryz.func125.trans (congrArg some (by kernel_rfl))
  f172 := Tryz.func102.trans (congrArg some (by kernel_rfl))
  f205 := Tryz.func160.trans (congrArg some (by kernel_rfl))
  f243 := Tryz.func142.trans (congrArg some (by kernel_rfl))
  f244 := Tryz.func122.trans (congrArg some (by kernel_rfl))
  f245 := Tryz.func123.trans (congrArg some (by kernel_rfl))
  f246 := Tryz.func161.trans (congrArg some (by kernel_rfl))
  f247 := Tryz.func136.trans (congrArg some (by kernel_rfl))
  f279 := Tryz.func137.trans (congrArg some (by kernel_rfl))
  f280 := Tryz.func138.trans (congrArg some (by kernel_rfl))
  f281 := Tryz.func139.trans (congrArg some (by kernel_rfl))
  f282 := Tryz.func140.trans (congrArg some (by kernel_rfl))
  f283 := Tryz.func175.trans (congrArg some (by kernel_rfl))
  f284 := Tryz.func176.trans (congrArg some (by kernel_rfl))
  f285 := Tryz.func177.trans (congrArg some (by kernel_rfl))
  f286 := Tryz.func178.trans (congrArg some (by kernel_rfl))
  f287 := Tryz.func158.trans (congrArg some (by kernel_rfl))
  f316 := Tryz.func159.trans (congrArg some (by kernel_rfl))
  f317 := Tryz.func183.trans (congrArg some (by kernel_rfl))
  f318 := Tryz.func185.trans (congrArg some (by kernel_rfl))
  f319 := Tryz.func186.trans (congrArg some (by kernel_rfl))
  f320 := Tryz.func187.trans (congrArg some (by kernel_rfl))
  f321 := Tryz.func173.trans (congrArg some (by kernel_rfl))
  f322 := Tryz.func174.trans (congrArg some (by kernel_rfl))
  f337 := Tryz.func188.trans (congrArg some (by kernel_rfl))
  f338 := Tryz.func189.trans (congrArg some (by kernel_rfl))
  t0 := Tryz.underlying0
  a0 := Tryz.isAgg0
  z0 := Tryz.sizeOf0
  v0 := Tryz.zeroValue0
  t2 := Tryz.underlying2
  a2 := Tryz.isAgg2
  z2 := Tryz.sizeOf2
  v2 := Tryz.zeroValue2
  t3 := Tryz.underlying3
  a3 := Tryz.isAgg3
  z3 := Tryz.sizeOf3
  v3 := Tryz.zeroValue3
  t4 := Tryz.underlying4
  a4 := Tryz.isAgg4
  z4 := Tryz.sizeOf4
  v4 := Tryz.zeroValue4
  t5 := Tryz.underlying5
  a5 := Tryz.isAgg5
  z5 := Tryz.sizeOf5
  v5 := Tryz.zeroValue5
  t9 := Tryz.underlying9
  a9 := Tryz.isAgg9
  z9 := Tryz.sizeOf9
  v9 := Tryz.zeroValue9
  t20 := Tryz.underlying20
  a20 := Tryz.isAgg20
  z20 := Tryz.sizeOf20
  v20 := Tryz.zeroValue20
  t21 := Tryz.underlying21
  a21 := Tryz.isAgg21
  z21 := Tryz.sizeOf21
  v21 := Tryz.zeroValue21
  t37 := Tryz.underlying191
  a37 := Tryz.isAgg191
  z37 := Tryz.sizeOf191
  v37 := Tryz.zeroValue191
  t46 := Tryz.underlying221
  a46 := Tryz.isAgg221
  z46 := Tryz.sizeOf221
  v46 := Tryz.zeroValue221
  t51 := Tryz.underlying201
  a51 := Tryz.isAgg201
  z51 := Tryz.sizeOf201
  v51 := Tryz.zeroValue201
  t53 := Tryz.underlying218
  a53 := Tryz.isAgg218
  z53 := Tryz.sizeOf218
  v53 := Tryz.zeroValue218
  t75 := Tryz.underlying156
  a75 := Tryz.isAgg156
  z75 := Tryz.sizeOf156
  v75 := Tryz.zeroValue156
  t76 := Tryz.underlying157
  a76 := Tryz.isAgg157
  z76 := Tryz.sizeOf157
  v76 := Tryz.zeroValue157
  t85 := Tryz.underlying192
  a85 := Tryz.isAgg192
  z85 := Tryz.sizeOf192
  v85 := Tryz.zeroValue192
  t127 := Tryz.underlying239
  a127 := Tryz.isAgg239
  z127 := Tryz.sizeOf239
  v127 := Tryz.zeroValue239
  t143 := Tryz.underlying242
  a143 := Tryz.isAgg242
  z143 := Tryz.sizeOf242
  v143 := Tryz.zeroValue242
  t145 := Tryz.underlying244
  a145 := Tryz.isAgg244
  z145 := Tryz.sizeOf244
  v145 := Tryz.zeroValue244
  t167 := Tryz.underlying190
  a167 := Tryz.isAgg190
  z167 := Tryz.sizeOf190
  v167 := Tryz.zeroValue190
  t168 := Tryz.underlying194
  a168 := Tryz.isAgg194
  z168 := Tryz.sizeOf194
  v168 := Tryz.zeroValue194
  t171 := Tryz.underlying245
  a171 := Tryz.isAgg245
  z171 := Tryz.sizeOf245
  v171 := Tryz.zeroValue245
  t173 := Tryz.underlying248
  a173 := Tryz.isAgg248
  z173 := Tryz.sizeOf248
  v173 := Tryz.zeroValue248
  t175 := Tryz.underlying219
  a175 := Tryz.isAgg219
  z175 := Tryz.sizeOf219
  v175 := Tryz.zeroValue219
  t210 := Tryz.underlying224
  a210 := Tryz.isAgg224
  z210 := Tryz.sizeOf224
  v210 := Tryz.zeroValue224
  t212 := Tryz.underlying261
  a212 := Tryz.isAgg261
  z212 := Tryz.sizeOf261
  v212 := Tryz.zeroValue261
  t213 := Tryz.underlying262
  a213 := Tryz.isAgg262
  z213 := Tryz.sizeOf262
  t232 := Tryz.underlying265
  a232 := Tryz.isAgg265
  z232 := Tryz.sizeOf265
  v232 := Tryz.zeroValue265
  t233 := Tryz.underlying266
  a233 := Tryz.isAgg266
  z233 := Tryz.sizeOf266
  v233 := Tryz.zeroValue266
  g15 := by kernel_rfl
  g16 := by kernel_rfl
  g17 := by kernel_rfl
  g18 := by kernel_rfl
  g19 := by kernel_rfl
  t80 := Tryz.underlying159
  a80 := Tryz.isAgg159
  z80 := Tryz.sizeOf159
  v80 := Tryz.zeroValue159
  i0 := by kernel_rfl
  i2 := by kernel_rfl
  i3 := by kernel_rfl
  i4 := by kernel_rfl
  i5 := by kernel_rfl
  i9 := by kernel_rfl
  i20 := by kernel_rfl
  i21 := by kernel_rfl
  i37 := by kernel_rfl
  i46 := by kernel_rfl
  i51 := by kernel_rfl
  i53 := by kernel_rfl
  i75 := by kernel_rfl
  i76 := by kernel_rfl
  i80 := by kernel_rfl
  i85 := by kernel_rfl
  i127 := by kernel_rfl
  i143 := by kernel_rfl
  i145 := by kernel_rfl
  i167 := by kernel_rfl
  i168 := by kernel_rfl
  i171 := by kernel_rfl
  i173 := by kernel_rfl
  i175 := by kernel_rfl
  i210 := by kernel_rfl
  i212 := by kernel_rfl
  i232 := by kernel_rfl
  i233 := by kernel_rfl
  m15 := by kernel_rfl
  m16 := by kernel_rfl
  m17 := by kernel_rfl
  m18 := by kernel_rfl
  m19 := by kernel_rfl
  c0 := by kernel_rfl
  c2 := by kernel_rfl
  c3 := by kernel_rfl
  c4 := by kernel_rfl
  c5 := by kernel_rfl
  c9 := by kernel_rfl
  c20 := by kernel_rfl
  c21 := by kernel_rfl
  c37 := by kernel_rfl
  c46 := by kernel_rfl
  c51 := by kernel_rfl
  c53 := by kernel_rfl
  c75 := by kernel_rfl
  c76 := by kernel_rfl
  c80 := by kernel_rfl
  c85 := by kernel_rfl
  c127 := by kernel_rfl
  c143 := by kernel_rfl
  c145 := by kernel_rfl
  c167 := by kernel_rfl
  c168 := by kernel_rfl
  c171 := by kernel_rfl
  c173 := by kernel_rfl
  c175 := by kernel_rfl
  c210 := by kernel_rfl
  c212 := by kernel_rfl
  c213 := by kernel_rfl
  c232 := by kernel_rfl
  c233 := by kernel_rfl }
open Go.RowKit in
theorem Tryz.strconv_Atoi_ok (s : ByteArray) (hmax : s.size ≤ 9223372036854775806) (v : Int) (h : Lib.atoiAll s.data.toList = .ok v) (w : World) :
    Calls Tryz.prog 102 #[.string s] w fun e w' => e = .returned (.tuple #[.int .i64 v, .nilIface]) ∧ (w' = w ∨ ∃ t, w' = Lib.bytesWorld w 5 t) := Any.strconv_Atoi_ok Tryz.Iy s hmax v h w
open Go.RowKit in
theorem Tryz.strconv_Atoi_syntax_var (s : ByteArray) (hlim : s.size ≤ 281474976710656) (e : Lib.NumEnd Int) (h : Lib.atoiAll s.data.toList = e) (h1 : ∀ v, e ≠ .ok v) (h2 : e ≠ .range) (tp : TypeId) (p : Value) (w : World) (hvar : w.var? Tryz.prog "strconv.ErrSyntax" = some #[.iface tp p]) :
    Calls Tryz.prog 102 #[.string s] w fun e w' => ∃ N, e = .returned (.tuple #[.int .i64 0, .iface 194 (.pointer (some ⟨N, 0, none⟩))]) ∧ w.heap.size ≤ N ∧ w'.heap[N]? = some (.cells #[.string ⟨#[65, 116, 111, 105]⟩, .string s, .iface tp p] 224 (0, 0)) ∧ Below w.heap.size w w' := Any.strconv_Atoi_syntax_var Tryz.Iy s hlim (by cases e with | ok v => exact absurd rfl (h1 v) | range => exact absurd rfl h2 | _ => exact h) tp p w hvar
open Go.RowKit in
theorem Tryz.strconv_Atoi_range_var (s : ByteArray) (hlim : s.size ≤ 281474976710656) (h : Lib.atoiAll s.data.toList = .range) (tp : TypeId) (p : Value) (w : World) (hvar : w.var? Tryz.prog "strconv.ErrRange" = some #[.iface tp p]) :
    Calls Tryz.prog 102 #[.string s] w fun e w' => ∃ N, e = .returned (.tuple #[.int .i64 (Lib.atoiSat s.data.toList), .iface 194 (.pointer (some ⟨N, 0, none⟩))]) ∧ w.heap.size ≤ N ∧ w'.heap[N]? = some (.cells #[.string ⟨#[65, 116, 111, 105]⟩, .string s, .iface tp p] 224 (0, 0)) ∧ Below w.heap.size w w' := Any.strconv_Atoi_range_var Tryz.Iy s hlim h tp p w hvar
def Tryz.Mf : Go.Shelf.Ren := ⟨fun | 171 => 125 | 243 => 142 | 246 => 161 | 283 => 175 | 284 => 176 | 285 => 177 | 286 => 178 | 129 => 184 | 317 => 183 | 318 => 185 | 319 => 186 | 320 => 187 | 337 => 188 | 338 => 189 | n => n, fun | 3 => 3 | 9 => 9 | 2 => 2 | 4 => 4 | 171 => 245 | 0 => 0 | 53 => 218 | 37 => 191 | 5 => 5 | 173 => 248 | 212 => 261 | 51 => 201 | 20 => 20 | 213 => 262 | 46 => 221 | 232 => 265 | 233 => 266 | n => n, fun | 17 => 7 | 18 => 8 | 19 => 9 | n => n⟩
theorem Tryz.Vg : Go.Proofs.LaysM.n171 Tryz.prog Tryz.Mf := {
  mixed := by kernel_rfl
  f129 := Tryz.func184.trans (congrArg some (by kernel_rfl))
  f171 := Tryz.func125.trans (congrArg some (by kernel_rfl))
  f243 := Tryz.func142.trans (congrArg some (by kernel_rfl))
  f246 := Tryz.func161.trans (congrArg some (by kernel_rfl))
  f283 := Tryz.func175.trans (congrArg some (by kernel_rfl))
  f284 := Tryz.func176.trans (congrArg some (by kernel_rfl))
  f285 := Tryz.func177.trans (congrArg some (by kernel_rfl))
  f286 := Tryz.func178.trans (congrArg some (by kernel_rfl))
  f317 := Tryz.func183.trans (congrArg some (by kernel_rfl))
  f318 := Tryz.func185.trans (congrArg some (by kernel_rfl))
  f319 := Tryz.func186.trans (congrArg some (by kernel_rfl))
  f320 := Tryz.func187.trans (congrArg some (by kernel_rfl))
  f337 := Tryz.func188.trans (congrArg some (by kernel_rfl))
  f338 := Tryz.func189.trans (congrArg some (by kernel_rfl))
  t0 := Tryz.underlying0
  a0 := Tryz.isAgg0
  z0 := Tryz.sizeOf0
  v0 := Tryz.zeroValue0
  t2 := Tryz.underlying2
  a2 := Tryz.isAgg2
  z2 := Tryz.sizeOf2
  v2 := Tryz.zeroValue2
  t3 := Tryz.underlying3
  a3 := Tryz.isAgg3
  z3 := Tryz.sizeOf3
  v3 := Tryz.zeroValue3
  t4 := Tryz.underlying4
  a4 := Tryz.isAgg4
  z4 := Tryz.sizeOf4
  v4 := Tryz.zeroValue4
  t5 := Tryz.underlying5
  a5 := Tryz.isAgg5
  z5 := Tryz.sizeOf5
  v5 := Tryz.zeroValue5
  t9 := Tryz.underlying9
  a9 := Tryz.isAgg9
  z9 := Tryz.sizeOf9
  v9 := Tryz.zeroValue9
  t20 := Tryz.underlying20
  a20 := Tryz.isAgg20
  z20 := Tryz.sizeOf20
  v20 := Tryz.zeroValue20
  t37 := Tryz.underlying191
  a37 := Tryz.isAgg191
  z37 := Tryz.sizeOf191
  v37 := Tryz.zeroValue191
  t46 := Tryz.underlying221
  a46 := Tryz.isAgg221
  z46 := Tryz.sizeOf221
  v46 := Tryz.zeroValue221
  t51 := Tryz.underlying201
  a51 := Tryz.isAgg201
  z51 := Tryz.sizeOf201
  v51 := Tryz.zeroValue201
  t53 := Tryz.underlying218
  a53 := Tryz.isAgg218
  z53 := Tryz.sizeOf218
  v53 := Tryz.zeroValue218
  t171 := Tryz.underlying245
  a171 := Tryz.isAgg245
  z171 := Tryz.sizeOf245
  v171 := Tryz.zeroValue245
  t173 := Tryz.underlying248
  a173 := Tryz.isAgg248
  z173 := Tryz.sizeOf248
  v173 := Tryz.zeroValue248
  t212 := Tryz.underlying261
  a212 := Tryz.isAgg261
  z212 := Tryz.sizeOf261
  v212 := Tryz.zeroValue261
  t213 := Tryz.underlying262
  a213 := Tryz.isAgg262
  z213 := Tryz.sizeOf262
  t232 := Tryz.underlying265
  a232 := Tryz.isAgg265
  z232 := Tryz.sizeOf265
  v232 := Tryz.zeroValue265
  t233 := Tryz.underlying266
  a233 := Tryz.isAgg266
  z233 := Tryz.sizeOf266
  v233 := Tryz.zeroValue266
  g17 := by kernel_rfl
  g18 := by kernel_rfl
  g19 := by kernel_rfl
  i0 := by kernel_rfl
  i2 := by kernel_rfl
  i3 := by kernel_rfl
  i4 := by kernel_rfl
  i5 := by kernel_rfl
  i9 := by kernel_rfl
  i20 := by kernel_rfl
  i37 := by kernel_rfl
  i46 := by kernel_rfl
  i51 := by kernel_rfl
  i53 := by kernel_rfl
  i171 := by kernel_rfl
  i173 := by kernel_rfl
  i212 := by kernel_rfl
  i232 := by kernel_rfl
  i233 := by kernel_rfl
  m17 := by kernel_rfl
  m18 := by kernel_rfl
  m19 := by kernel_rfl }
open Go.RowKit Go.Sort Go.Lib in
theorem Tryz.strconv_Itoa (n : Int) (h0 : -9223372036854775808 ≤ n) (h1 : n ≤ 9223372036854775807) (w : World) (htab : Lib.TabIs Tryz.prog w "internal/strconv.uint64pow10" .u64 Lib.pow10Tab) :
    Calls Tryz.prog 125 #[.int .i64 n] w fun e w' => e = .returned (.string ⟨(Lib.itoa n).toArray⟩) ∧ ∃ k os, w' = grow (w.drewN k) os := Any.strconv_Itoa Tryz.Vg n h0 h1 w htab
def Tryz.NB : Go.Shelf.Ren := ⟨fun | 157 => 111 | 229 => 126 | 199 => 127 | 261 => 143 | 311 => 162 | 312 => 163 | n => n, fun | 9 => 9 | 31 => 153 | 3 => 3 | 5 => 5 | 4 => 4 | 119 => 182 | 0 => 0 | 40 => 184 | 152 => 198 | 21 => 21 | 154 => 200 | 51 => 201 | 141 => 203 | 196 => 230 | 193 => 227 | 198 => 233 | 49 => 231 | 194 => 228 | 201 => 236 | 226 => 250 | 46 => 221 | 227 => 251 | n => n, fun | 0 => 0 | 6 => 1 | n => n⟩
theorem Tryz.X7 : Go.Proofs.Lays.n157 Tryz.prog Tryz.NB := {
  mixed := by kernel_rfl
  f157 := Tryz.func111.trans (congrArg some (by kernel_rfl))
  f199 := Tryz.func127.trans (congrArg some (by kernel_rfl))
  f229 := Tryz.func126.trans (congrArg some (by kernel_rfl))
  f261 := Tryz.func143.trans (congrArg some (by kernel_rfl))
  f311 := Tryz.func162.trans (congrArg some (by kernel_rfl))
  f312 := Tryz.func163.trans (congrArg some (by kernel_rfl))
  t0 := Tryz.underlying0
  a0 := Tryz.isAgg0
  z0 := Tryz.sizeOf0
  v0 := Tryz.zeroValue0
  t3 := Tryz.underlying3
  a3 := Tryz.isAgg3
  z3 := Tryz.sizeOf3
  v3 := Tryz.zeroValue3
  t4 := Tryz.underlying4
  a4 := Tryz.isAgg4
  z4 := Tryz.sizeOf4
  v4 := Tryz.zeroValue4
  t5 := Tryz.underlying5
  a5 := Tryz.isAgg5
  z5 := Tryz.sizeOf5
  v5 := Tryz.zeroValue5
  t9 := Tryz.underlying9
  a9 := Tryz.isAgg9
  z9 := Tryz.sizeOf9
  v9 := Tryz.zeroValue9
  t21 := Tryz.underlying21
  a21 := Tryz.isAgg21
  z21 := Tryz.sizeOf21
  v21 := Tryz.zeroValue21
  t31 := Tryz.underlying153
  a31 := Tryz.isAgg153
  z31 := Tryz.sizeOf153
  v31 := Tryz.zeroValue153
  t40 := Tryz.underlying184
  a40 := Tryz.isAgg184
  z40 := Tryz.sizeOf184
  v40 := Tryz.zeroValue184
  t46 := Tryz.underlying221
  a46 := Tryz.isAgg221
  z46 := Tryz.sizeOf221
  v46 := Tryz.zeroValue221
  t49 := Tryz.underlying231
  a49 := Tryz.isAgg231
  z49 := Tryz.sizeOf231
  v49 := Tryz.zeroValue231
  t51 := Tryz.underlying201
  a51 := Tryz.isAgg201
  z51 := Tryz.sizeOf201
  v51 := Tryz.zeroValue201
  t119 := Tryz.underlying182
  a119 := Tryz.isAgg182
  z119 := Tryz.sizeOf182
  t141 := Tryz.underlying203
  a141 := Tryz.isAgg203
  z141 := Tryz.sizeOf203
  v141 := Tryz.zeroValue203
  t152 := Tryz.underlying198
  a152 := Tryz.isAgg198
  z152 := Tryz.sizeOf198
  v152 := Tryz.zeroValue198
  t154 := Tryz.underlying200
  a154 := Tryz.isAgg200
  z154 := Tryz.sizeOf200
  v154 := Tryz.zeroValue200
  t193 := Tryz.underlying227
  a193 := Tryz.isAgg227
  z193 := Tryz.sizeOf227
  v193 := Tryz.zeroValue227
  t194 := Tryz.underlying228
  a194 := Tryz.isAgg228
  z194 := Tryz.sizeOf228
  v194 := Tryz.zeroValue228
  t196 := Tryz.underlying230
  a196 := Tryz.isAgg230
  z196 := Tryz.sizeOf230
  v196 := Tryz.zeroValue230
  t198 := Tryz.underlying233
  a198 := Tryz.isAgg233
  z198 := Tryz.sizeOf233
  v198 := Tryz.zeroValue233
  t201 := Tryz.underlying236
  a201 := Tryz.isAgg236
  z201 := Tryz.sizeOf236
  v201 := Tryz.zeroValue236
  t226 := Tryz.underlying250
  a226 := Tryz.isAgg250
  z226 := Tryz.sizeOf250
  v226 := Tryz.zeroValue250
  t227 := Tryz.underlying251
  a227 := Tryz.isAgg251
  z227 := Tryz.sizeOf251
  v227 := Tryz.zeroValue251
  g0 := by kernel_rfl
  g6 := by kernel_rfl }
open Go.RowKit Go.Lib in
theorem Tryz.strings_Fields (s : ByteArray) (w : World) (hs : s.size < 4294967281) (hascii : ∀ (j : Nat) b, s.data.toList[j]? = some b → b.toNat < 128) (htab : Lib.TabIs Tryz.prog w "strings.asciiSpace" .u8 Lib.asciiSpaceTab) :
    Calls Tryz.prog 111 #[.string s] w fun e w' =>
      e = .returned (.slice (some ⟨w.heap.size, 0, none⟩) (Lib.fields s.data.toList).length (Lib.fields s.data.toList).length) ∧ w' = w.alloc (.cells ((Lib.fields s.data.toList).map fun l => Value.string ⟨l.toArray⟩).toArray 9) := Any.strings_Fields Tryz.X7 (by kernel_rfl) (by kernel_rfl) s w hs hascii htab
def Tryz.GK : Go.Shelf.Ren := ⟨fun | 156 => 131 | 165 => 148 | 166 => 149 | 169 => 150 | 240 => 165 | 241 => 166 | 276 => 179 | 277 => 180 | n => n, fun | 31 => 153 | 9 => 9 | 3 => 3 | 4 => 4 | 0 => 0 | 20 => 20 | 72 => 209 | 76 => 157 | 70 => 207 | 37 => 191 | 75 => 156 | 127 => 239 | 164 => 252 | 5 => 5 | 80 => 159 | n => n, fun | n => n⟩
theorem Tryz.Rt : Go.Proofs.Lays.n156 Tryz.prog Tryz.GK := {
  mixed := by kernel_rfl
  f156 := Tryz.func131.trans (congrArg some (by kernel_rfl))
  f165 := Tryz.func148.trans (congrArg some (by kernel_rfl))
  f166 := Tryz.func149.trans (congrArg some (by kernel_rfl))
  f169 := Tryz.func150.trans (congrArg some (by kernel_rfl))
  f240 := Tryz.func165.trans (congrArg some (by kernel_rfl))
  f241 := Tryz.func166.trans (congrArg some (by kernel_rfl))
  f276 := Tryz.func179.trans (congrArg some (by kernel_rfl))
  f277 := Tryz.func180.trans (congrArg some (by kernel_rfl))
  t0 := Tryz.underlying0
  a0 := Tryz.isAgg0
  z0 := Tryz.sizeOf0
  v0 := Tryz.zeroValue0
  t3 := Tryz.underlying3
  a3 := Tryz.isAgg3
  z3 := Tryz.sizeOf3
  v3 := Tryz.zeroValue3
  t4 := Tryz.underlying4
  a4 := Tryz.isAgg4
  z4 := Tryz.sizeOf4
  v4 := Tryz.zeroValue4
  t9 := Tryz.underlying9
  a9 := Tryz.isAgg9
  z9 := Tryz.sizeOf9
  v9 := Tryz.zeroValue9
  t20 := Tryz.underlying20
  a20 := Tryz.isAgg20
  z20 := Tryz.sizeOf20
  v20 := Tryz.zeroValue20
  t31 := Tryz.underlying153
  a31 := Tryz.isAgg153
  z31 := Tryz.sizeOf153
  v31 := Tryz.zeroValue153
  t37 := Tryz.underlying191
  a37 := Tryz.isAgg191
  z37 := Tryz.sizeOf191
  v37 := Tryz.zeroValue191
  t70 := Tryz.underlying207
  a70 := Tryz.isAgg207
  z70 := Tryz.sizeOf207
  v70 := Tryz.zeroValue207
  t72 := Tryz.underlying209
  a72 := Tryz.isAgg209
  z72 := Tryz.sizeOf209
  v72 := Tryz.zeroValue209
  t75 := Tryz.underlying156
  a75 := Tryz.isAgg156
  z75 := Tryz.sizeOf156
  v75 := Tryz.zeroValue156
  t76 := Tryz.underlying157
  a76 := Tryz.isAgg157
  z76 := Tryz.sizeOf157
  v76 := Tryz.zeroValue157
  t127 := Tryz.underlying239
  a127 := Tryz.isAgg239
  z127 := Tryz.sizeOf239
  v127 := Tryz.zeroValue239
  t164 := Tryz.underlying252
  a164 := Tryz.isAgg252
  z164 := Tryz.sizeOf252
  v164 := Tryz.zeroValue252 }
theorem Tryz.yD : Builder.Extra Tryz.prog Tryz.GK := {
  sizeBuilder := by kernel_rfl
  liesBuilder := by kernel_rfl
  t5 := Tryz.underlying5
  a5 := Tryz.isAgg5
  z5 := Tryz.sizeOf5
  v5 := Tryz.zeroValue5
  infoByte := by kernel_rfl
  cellsByte := by kernel_rfl
  sizeByte := by kernel_rfl
  neB5 := by decide }
open Go.RowKit in
theorem Tryz.strings_Join_none (a : Option Addr) (c : Nat) (sep : ByteArray) (w : World) :
    Calls Tryz.prog 131 #[.slice a 0 c, .string sep] w fun e w' => e = .returned (.string ⟨#[]⟩) ∧ w' = w := Any.strings_Join_none Tryz.Rt Tryz.yD a c sep w
open Go.RowKit in
theorem Tryz.strings_Join (bk o c : Nat) (xs : List ByteArray) (sep : ByteArray) (w : World) (hcells : ∀ (j : Nat) x, xs[j]? = some x → w.cell? ⟨bk, o + j, none⟩ = some (.string x)) (hbk : bk < w.heap.size) (hN : xs.length ≤ 140737488355328) (hcap : xs.length ≤ c) (hlen : (Lib.join (xs.map (·.data.toList)) sep.data.toList).length ≤ 140737488355328) :
    Calls Tryz.prog 131 #[.slice (some ⟨bk, o, none⟩) xs.length c, .string sep] w fun e w' => e = .returned (.string ⟨(Lib.join (xs.map (·.data.toList)) sep.data.toList).toArray⟩) ∧ Below w.heap.size w w' := Any.strings_Join Tryz.Rt Tryz.yD bk o c xs sep w hcells hbk hN hcap hlen
end Go.Proofs
