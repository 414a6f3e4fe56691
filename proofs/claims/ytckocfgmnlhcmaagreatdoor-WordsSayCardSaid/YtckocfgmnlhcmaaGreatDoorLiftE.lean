/-
  Our own library, the fifth part: ranges over maps; closures and what they write on.
-/
import Derived.Test.YtckocfgmnlhcmaaGreatDoorLiftD
import Derived.Laws.IdiomRangeMap
import Derived.Lib.FieldsLaws
set_option linter.unusedSimpArgs false
set_option linter.unusedVariables false
namespace Go.LX
open Go.RowKit Go.Proofs
/-! A range over a map: whichever entry comes next. -/
def RngP {α : Type} (f : α → Value) (m r : Nat) (last : Option (Int × α)) (left : List (Int × α)) (w : World) : Prop :=
  m ≠ r ∧ ∃ es clock seen, w.heap[m]? = some (.map es clock) ∧ BornOk es clock ∧ w.heap[r]? = some (.mapIter (some m) clock seen clock) ∧
    (leftOf es seen).toList.map (fun e => (e.key, e.val)) = left.map (fun p => (Value.int .i64 p.1, f p.2)) ∧
    ∀ p, last = some p → ∃ e ∈ es.toList, seen.back? = some e.born ∧ e.key = .int .i64 p.1 ∧ e.val = f p.2
def rngS {α : Type} (f : α → Value) (m r : Nat) (last : Option (Int × α)) (left : List (Int × α)) : Pce where
  own x := x = m ∨ x = r
  P w _ := RngP f m r last left w
  lt := by
    rintro w A x ⟨_, es, clock, seen, h1, _, h2, _⟩ (rfl | rfl)
    · exact lt_of_blk h1
    · exact lt_of_blk h2
  go := by
    rintro w w' A A' K ⟨h0, es, clock, seen, h1, h2, h3, h4⟩ hk hK hKo hA
    exact ⟨h0, es, clock, seen, hk.blk h1 (fun h => hKo m h (.inl rfl)), h2, hk.blk h3 (fun h => hKo r h (.inr rfl)), h4⟩
section
variable {P : Program} {ops : Array Oper} {Q : Exit → Act → World → Prop} {n : Nat} {env : Nat → Value} {w w' w0 : World} {M K : BS} {hp : Nat → Chunk} {rest : List Oper}
  {d : Option Nat} {op : Op} {ty : TypeId} {pos : String} {af : Array Edge} {v : Value} {g : Option (Nat × Bool)} {T : TypeId} {ρ : Operand → Value} {x y : Operand} {α : Type} {f : α → Value}
theorem w_range {z : Value} {m : Nat} {ents : List (Int × Value)} (l : List (Int × α)) (h : SH w0 M K w hp) (i : Nat) (hi : hp i = .mp m ents) (hT : MapOf P T z) (hx : ev n env x = .map (some m)) (he : ents = l.map fun p => (p.1, f p.2))
    (k : ∀ w' r, SH w0 M K w' (hupd hp i (.pce (rngS f m r none l))) → WL P ops Q rest n (updo env d (.pointer (some ⟨r, 0, none⟩))) w') : WL P ops Q (⟨d, .range T x, ty, pos, af, none⟩ :: rest) n env w := by
  obtain ⟨K', E, h1, h2, h3⟩ := hT.desc
  obtain ⟨es, clock, hb, he2, hbo⟩ := h.mpAt i hi
  have hrun : (execOp (ev n env) ⟨d, .range T x, ty, pos, af, none⟩).run P w = .ok (.value (.pointer (some ⟨w.heap.size, 0, none⟩))) (w.alloc (.mapIter (some m) clock #[] clock)) := by
    simp only [execOp, hx]
    simp [run_range_map w T K' E m es clock h1 hb]
  refine wl_ok hrun (k _ _ ?_)
  have hlt := lt_of_blk hb
  refine h.step i (N := BE) (Grow.alloc _ _) (fun _ h => h.elim) (fun b hb' hl => ?_) ?_
  · rw [hi]
    rcases hb' with rfl | rfl
    · rfl
    · exact absurd hl (Nat.lt_irrefl _)
  · refine ⟨Nat.ne_of_lt hlt, es, clock, #[], by rw [(Grow.alloc _ _).blk hb], hbo, heap_alloc_new _ _, ?_, fun p h => by cases h⟩
    have : leftOf es #[] = es := by unfold leftOf; exact Array.filter_eq_self.2 (fun x _ => by simp)
    rw [this, he2, he, List.map_map]
    rfl
theorem run_setObj_iter {r : Nat} {a : Option Nat} {s c : Nat} {sn : Array Nat} (o : Obj) (hr : w.heap[r]? = some (.mapIter a s sn c)) : (setObj r o).run P w = .ok () (putb w r o) := by
  simp only [setObj, Sem.run, hr]
  rfl
theorem run_next_any (ty : TypeId) {m r clock : Nat} {es : Array MapEntry} {seen : Array Nat} (hm : w.heap[m]? = some (.map es clock)) (hr : w.heap[r]? = some (.mapIter (some m) clock seen clock)) (hbo : ∀ e ∈ es.toList, e.born < clock) :
    ((leftOf es seen).size = 0 ∧ (Instr.next (.pointer (some ⟨r, 0, none⟩)) false ty).run P w = .ok (.tuple #[.bool false]) w) ∨
    ∃ e ∈ (leftOf es seen).toList, ∃ w1 : World, (w1 = w ∨ w1 = w.drew) ∧ (Instr.next (.pointer (some ⟨r, 0, none⟩)) false ty).run P w = .ok (.tuple #[.bool true, e.key, e.val]) (putb w1 r (.mapIter (some m) clock (seen.push e.born) clock)) := by
  have hgr : (getObj r).run P w = .ok (.mapIter (some m) clock seen clock) w := by simp [getObj, Sem.run, hr]
  have hgm : (getObj m).run P w = .ok (.map es clock) w := by simp [getObj, Sem.run, hm]
  simp only [Instr.next, Sem.run_bind, hgr, hgm, Result.andThen_ok, next_test_false seen es clock clock hbo (Nat.le_refl _), Bool.false_eq_true, if_false]
  unfold leftOf
  have hmem : ∀ x ∈ (Array.filter (fun e => !seen.contains e.born) es).toList, x.born < clock := fun x hx => hbo x (by simp at hx ⊢; exact hx.1)
  generalize Array.filter (fun e => !seen.contains e.born) es = L at hmem ⊢
  have e1 : L.filter (fun x => decide (x.born < clock)) = L := Array.filter_eq_self.2 (fun x hx => by simpa using hmem x (by simpa using hx))
  have e2 : L.filter (fun x => decide (x.born ≥ clock)) = #[] := by
    rw [Array.filter_eq_empty_iff]
    intro x hx
    have := hmem x (by simpa using hx)
    simp
    omega
  simp only [e1, e2, Array.append_empty]
  by_cases h0 : L.size = 0
  · left
    have : L = #[] := Array.eq_empty_of_size_eq_zero h0
    subst this
    refine ⟨rfl, ?_⟩
    simp [choose, Sem.run, Question.forced]
  · right
    have hne : L.isEmpty = false := by simp [Array.isEmpty, h0]
    simp only [hne, Bool.false_eq_true, if_false, Array.empty_append, Array.size_map]
    have hch : ∃ (j : Nat) (w1 : World), j < L.size ∧ (w1 = w ∨ w1 = w.drew) ∧ (choose (Question.mapNext L.size)).run P w = .ok j w1 := by
      by_cases hf : L.size ≤ 1
      · exact ⟨0, w, by omega, .inl rfl, by simp [choose, Sem.run, Question.forced, hf]⟩
      · exact ⟨_, w.drew, Nat.mod_lt _ (by omega), .inr rfl, by
          simp only [choose, Sem.run, Question.forced, decide_eq_true_eq, hf, if_false, Question.cut]
          rfl⟩
    obtain ⟨j, w1, hj, hw1, hrun⟩ := hch
    refine ⟨L[j], by simp, w1, hw1, ?_⟩
    have hr1 : w1.heap[r]? = some (.mapIter (some m) clock seen clock) := by rcases hw1 with rfl | rfl <;> exact hr
    simp only [hrun, Array.getElem?_map, Array.getElem?_eq_getElem hj, Option.map_some, Sem.run_bind, run_setObj_iter _ hr1, Result.andThen_ok]
    rfl
theorem leftOf_push (es : Array MapEntry) (seen : Array Nat) (b : Nat) : (leftOf es (seen.push b)).toList = (leftOf es seen).toList.filter (fun x => x.born != b) := by
  unfold leftOf
  rw [Array.toList_filter, Array.toList_filter, List.filter_filter]
  apply List.filter_congr
  intro x _
  have : (seen.push b).contains x.born = (seen.contains x.born || (x.born == b)) := by
    rw [Bool.eq_iff_iff]
    simp [Array.contains_iff_mem]
  rw [this]
  cases seen.contains x.born <;> cases hq : (x.born == b) <;> simp [bne, hq]
theorem w_next {m r : Nat} {last : Option (Int × α)} {left : List (Int × α)} (h : SH w0 M K w hp) (i : Nat) (hi : hp i = .pce (rngS f m r last left)) (hx : ev n env x = .pointer (some ⟨r, 0, none⟩))
    (k0 : left = [] → WL P ops Q rest n (updo env d (.tuple #[.bool false])) w)
    (k1 : ∀ p left' w', left.Perm (p :: left') → SH w0 M K w' (hupd hp i (.pce (rngS f m r (some p) left'))) → WL P ops Q rest n (updo env d (.tuple #[.bool true, .int .i64 p.1, f p.2])) w') :
    WL P ops Q (⟨d, .next x false, ty, pos, af, none⟩ :: rest) n env w := by
  have hc := h.ok i
  rw [hi] at hc
  obtain ⟨hne, es, clock, seen, h1, h2, h3, h4, h5⟩ := hc
  rcases run_next_any (P := P) ty h1 h3 h2.1 with ⟨g1, g2⟩ | ⟨e, he, w1, hw1, g2⟩
  · have hl : left = [] := by
      have : (leftOf es seen).toList = [] := List.eq_nil_of_length_eq_zero (by simpa using g1)
      rw [this] at h4
      cases left with
      | nil => rfl
      | cons p l => cases h4
    refine wl_ok (v := .tuple #[.bool false]) (w' := w) ?_ (k0 hl)
    simp only [execOp, hx]
    simp [g2]
  · obtain ⟨A, B, hAB⟩ := List.append_of_mem he
    rw [hAB, List.map_append, List.map_cons] at h4
    obtain ⟨la, l2, rfl, q1, q2⟩ := List.map_eq_append_iff.1 h4.symm
    obtain ⟨p, lb, rfl, q3, q4⟩ := List.map_eq_cons_iff.1 q2
    simp only [Prod.mk.injEq] at q3
    have hlt1 := lt_of_blk h3
    have hk1 : Grow w w1 := by
      rcases hw1 with rfl | rfl
      · exact Keep.refl _ _
      · exact ⟨rfl, rfl, rfl, Nat.le_refl _, fun _ _ _ => rfl⟩
    have hk : Keep (fun x => x = m ∨ x = r) w (putb w1 r (.mapIter (some m) clock (seen.push e.born) clock)) := Keep.step (hk1.weaken (fun _ h _ => h.elim)) (Keep.putb _ _ _) (fun x hx _ => .inr hx)
    have hm1 : (putb w1 r (.mapIter (some m) clock (seen.push e.born) clock)).heap[m]? = some (.map es clock) := by
      rw [(Keep.putb w1 r _).block m hne (Nat.lt_of_lt_of_le (lt_of_blk h1) hk1.size), hk1.blk h1]
    refine wl_ok (v := .tuple #[.bool true, .int .i64 p.1, f p.2]) (w' := putb w1 r (.mapIter (some m) clock (seen.push e.born) clock)) ?_ (k1 p (la ++ lb) _ (List.perm_middle) ?_)
    · rw [q3.1, q3.2]
      simp only [execOp, hx]
      simp [g2]
    · refine h.pceStep (S' := rngS f m r (some p) (la ++ lb)) i hi ?_ hk (fun b hb _ => hb)
      refine ⟨hne, es, clock, seen.push e.born, hm1, h2, putb_blk (Nat.lt_of_lt_of_le hlt1 hk1.size), ?_, fun p' hp' => ?_⟩
      · rw [leftOf_push, hAB]
        have hnd : ((leftOf es seen).toList.map (·.born)).Nodup := by
          unfold leftOf
          rw [Array.toList_filter]
          exact (h2.2.sublist ((List.filter_sublist (l := es.toList)).map _))
        rw [hAB, List.map_append, List.map_cons, List.nodup_append] at hnd
        obtain ⟨n1, n2, n3⟩ := hnd
        rw [List.filter_append, List.filter_cons_of_neg (by simp), List.filter_eq_self.2 (fun x hx => ?_), List.filter_eq_self.2 (fun x hx => ?_), List.map_append, List.map_append, ← q1, ← q4]
        · have := (List.nodup_cons.1 n2).1
          simp only [bne_iff_ne, ne_eq, decide_not, Bool.not_eq_true', beq_eq_false_iff_ne]
          intro hq
          exact this (by rw [← hq]; exact List.mem_map.2 ⟨x, hx, rfl⟩)
        · simp only [bne_iff_ne, ne_eq, decide_not, Bool.not_eq_true', beq_eq_false_iff_ne]
          intro hq
          exact n3 x.born (List.mem_map.2 ⟨x, hx, rfl⟩) e.born (by simp) hq
      · cases hp'
        refine ⟨e, ?_, by simp, q3.1.symm, q3.2.symm⟩
        have : e ∈ (leftOf es seen).toList := he
        unfold leftOf at this
        rw [Array.toList_filter] at this
        exact (List.mem_filter.1 this).1
theorem r_entry {m r : Nat} {p : Int × α} {left : List (Int × α)} (h : SH w0 M K w hp) (i : Nat) (hi : hp i = .pce (rngS f m r (some p) left)) (hx : ρ x = .pointer (some ⟨r, 0, none⟩)) :
    (execOp ρ ⟨d, .entry x, ty, pos, af, g⟩).run P w = .ok (.value (.tuple #[.int .i64 p.1, f p.2])) w := by
  have hc := h.ok i
  rw [hi] at hc
  obtain ⟨hne, es, clock, seen, h1, h2, h3, h4, h5⟩ := hc
  obtain ⟨e, he, hs, hk, hv⟩ := h5 p rfl
  have hgr : (getObj r).run P w = .ok (.mapIter (some m) clock seen clock) w := by simp [getObj, Sem.run, h3]
  have hgm : (getObj m).run P w = .ok (.map es clock) w := by simp [getObj, Sem.run, h1]
  have hf : es.find? (·.born == e.born) = some e := by rw [← Array.find?_toList]; exact find_born e es.toList h2.2 he
  simp only [execOp, hx]
  have : (Instr.entry (.pointer (some ⟨r, 0, none⟩))).run P w = .ok (.tuple #[.int .i64 p.1, f p.2]) w := by
    simp only [Instr.entry, Sem.run_bind, hgr, hgm, Result.andThen_ok, hs, bne_self_eq_false, Bool.false_eq_true, if_false, hf]
    rw [hk, hv]
    rfl
  simp [this]
/-- The entry that came out last is no more told of. -/
theorem SH.rngForget {m r : Nat} {last : Option (Int × α)} {left : List (Int × α)} (h : SH w0 M K w hp) (i : Nat) (hi : hp i = .pce (rngS f m r last left)) : SH w0 M K w (hupd hp i (.pce (rngS f m r none left))) := by
  have hc := h.ok i
  rw [hi] at hc
  obtain ⟨hne, es, clock, seen, h1, h2, h3, h4, h5⟩ := hc
  exact h.pceStep (S' := rngS f m r none left) i hi ⟨hne, es, clock, seen, h1, h2, h3, h4, fun p h => by cases h⟩ (Keep.refl _ _) (fun b hb _ => hb)
end
/-! The steps in whatever order. -/
def foldO {α σ : Type} (step : α → σ → Option σ) : List α → σ → Option σ
  | [], s => some s
  | a :: l, s => (step a s).bind (foldO step l)
def FoldsTo {α σ : Type} (step : α → σ → Option σ) (L : List α) (s fin : σ) : Prop := ∀ p, p.Perm L → foldO step p s = some fin
open Classical in
noncomputable def foldAny {α σ : Type} (step : α → σ → Option σ) (L : List α) (s : σ) : Option σ := if h : ∃ fin, FoldsTo step L s fin then some h.choose else none
theorem o_fold {α σ : Type} {step : α → σ → Option σ} {L : List α} {s fin : σ} (h : foldAny step L s = some fin) : FoldsTo step L s fin := by
  unfold foldAny at h
  split at h
  · rename_i hx
    cases h
    exact hx.choose_spec
  · cases h
theorem foldAny_eq {α σ : Type} {step : α → σ → Option σ} {L : List α} {s fin : σ} (h : FoldsTo step L s fin) : foldAny step L s = some fin := by
  have hx : ∃ fin, FoldsTo step L s fin := ⟨fin, h⟩
  unfold foldAny
  rw [dif_pos hx]
  have h1 := hx.choose_spec L (List.Perm.refl _)
  rw [h L (List.Perm.refl _)] at h1
  exact h1.symm
theorem FoldsTo.nil {α σ : Type} {step : α → σ → Option σ} {s fin : σ} (h : FoldsTo step [] s fin) : s = fin := by
  have := h [] (List.Perm.refl _)
  exact Option.some.inj this
theorem FoldsTo.cons {α σ : Type} {step : α → σ → Option σ} {L L' : List α} {p : α} {s fin : σ} (h : FoldsTo step L s fin) (hp : L.Perm (p :: L')) : ∃ s1, step p s = some s1 ∧ FoldsTo step L' s1 fin := by
  have h0 := h (p :: L') hp.symm
  obtain ⟨s1, h1, h2⟩ := o_bind h0
  refine ⟨s1, h1, fun q hq => ?_⟩
  have := h (p :: q) ((hq.cons p).trans hp.symm)
  unfold foldO at this
  rw [h1] at this
  exact this
end Go.LX

namespace Go.LX
open Go.RowKit Go.Proofs
section
variable {w0 w w' : World} {M K : BS} {hp : Nat → Chunk} {C : Chunk}
theorem SH.argPtC {b : Nat} {cs : List Value} (h : SH w M K w hp) (i : Nat) (ho : ∃ E, w.heap[b]? = some (.cells cs.toArray E (0, 0))) (hb : ¬ C.own' b) (hn : ∀ b, allOwn hp b → C.own' b) : SH w M K w (hupd hp i (.pt b 0 cs)) := by
  obtain ⟨E, hE⟩ := ho
  exact h.pt i (fun h => hb (hn b h)) ⟨_, E, _, hE, by simp⟩
theorem own1_pt {i b o : Nat} {cs : List Value} (hn : ∀ b, allOwn hp b → C.own' b) : ∀ x, allOwn (hupd hp i (.pt b o cs)) x → C.own' x := by
  rintro x ⟨j, hj⟩
  by_cases e : j = i
  · subst e; rw [hupd_same] at hj; exact hj.elim
  · rw [hupd_ne e] at hj; exact hn x ⟨j, hj⟩
theorem SH.loseC3 {c e f : Chunk} (h : SH w0 M K w hp) (i j k : Nat) (hij : i ≠ j) (hik : i ≠ k) (hjk : j ≠ k) (hi : hp i = c) (hj : hp j = e) (hk0 : hp k = f) (hk : Keep (fun b => c.own' b ∨ e.own' b ∨ f.own' b) w w') :
    SH w0 M K w' (hupd (hupd (hupd (hupd (hupd hp j .no) i (.two (hp i) (hp j))) k .no) i (.two ((hupd (hupd hp j .no) i (.two (hp i) (hp j))) i) ((hupd (hupd hp j .no) i (.two (hp i) (hp j))) k))) i .no) := by
  have h1 := h.pair i j hij
  have h2 := h1.pair i k hik
  refine h2.loseC i (hupd_same _ _ _) ?_
  rw [hupd_same, hupd_ne (fun e => hik e.symm), hupd_ne (fun e => hjk e.symm), hi, hj, hk0]
  refine hk.weaken (fun b hb _ => ?_)
  rcases hb with hb | hb | hb
  · exact .inl (.inl hb)
  · exact .inl (.inr hb)
  · exact .inr hb
end
section
variable {α : Type} {R : Rep α} {E : TypeId} {w0 w w' : World} {M K A : BS} {hp : Nat → Chunk} {C : Chunk} {v : Value} {l : List α}
theorem OwnSl.srcB {B : BS} (h : OwnSl R E w A v l) (hB : ∀ b, ob v b → ¬ B b) : Rd2 R w B A v l := by
  have h0 := h.src
  obtain ⟨xs, h1, h3⟩ := h
  rcases h1.2 with ⟨rfl, hn⟩ | ⟨g, cap, cur, rfl, e1, e2, e3, e4, e5, e6⟩
  · have : l = [] := List.eq_nil_of_length_eq_zero hn
    subst this
    exact Rd2.nil
  · obtain ⟨a, cap', q0, q1, q2, q3, q4⟩ := h0
    refine ⟨a, cap', q0, q1, q2, q3, fun i hi => ?_⟩
    obtain ⟨b, o, cells, F, fz, p1, p2, p3, p4⟩ := q4 i hi
    refine ⟨b, o, cells, F, fz, p1, ?_, p3, p4⟩
    subst p1
    simp only [Value.slice.injEq, Option.some.injEq, Addr.mk.injEq] at q0
    exact hB b (by simp [ob, q0.1.1])
theorem own1_sr {i : Nat} (hn : ∀ b, allOwn hp b → C.own' b) : ∀ b, allOwn (hupd hp i (.sr R v l)) b → C.own' b := by
  rintro b ⟨j, hj⟩
  by_cases e : j = i
  · subst e; rw [hupd_same] at hj; exact hj.elim
  · rw [hupd_ne e] at hj; exact hn b ⟨j, hj⟩
theorem SH.argSrC (h : SH w M K w hp) (i : Nat) (ho : Rd2 R w C.own' (fun b => M b ∨ C.own' b) v l) (hn : ∀ b, allOwn hp b → C.own' b) : SH w M K w (hupd hp i (.sr R v l)) :=
  h.know i (fun _ h => h) (ho.sub (fun b hb _ => hn b hb) (fun b hb _ => hb.imp id (hn b)))
theorem av_all {i : Nat} (hi : hp i = C) : ∀ b, (M b ∨ rest hp i b) ∨ C.own' b → SH.A M hp b := by
  rintro b ((hb | hb) | hb)
  · exact .inl hb
  · exact .inr (rest_all hb)
  · exact .inr ⟨i, by rw [hi]; exact hb⟩
theorem SH.ownSr (h : SH w0 M K w hp) (i j : Nat) (hij : i ≠ j) (hj : hp j = .own R E v l) (hi : hp i = C) : Rd2 R w C.own' (fun b => (M b ∨ rest hp i b) ∨ C.own' b) v l :=
  ((h.ownAt j hj).srcB (B := C.own') (fun b hb hc => h.apart i j hij b (by rw [hi]; exact hc) (by rw [hj]; exact hb))).sub (fun _ h _ => h) (fun b hb _ => av_all hi b hb)
theorem SH.rdSr (h : SH w0 M K w hp) (i j : Nat) (hj : hp j = .rd R v l) (hi : hp i = C) : Rd2 R w C.own' (fun b => (M b ∨ rest hp i b) ∨ C.own' b) v l :=
  (h.rdAt j hj).sub (fun b hb _ => av_all hi b (.inr hb)) (fun b hb _ => av_all hi b hb)
theorem SH.srSr (h : SH w0 M K w hp) (i j : Nat) (hj : hp j = .sr R v l) (hi : hp i = C) : Rd2 R w C.own' (fun b => (M b ∨ rest hp i b) ∨ C.own' b) v l :=
  (h.srAt j hj).sub (fun b hb _ => ⟨i, by rw [hi]; exact hb⟩) (fun b hb _ => av_all hi b hb)
end
/-! strings.Fields -/
def fieldsS (s : Str) : Option (List Str) := grd (s.length < 4294967281 ∧ (s.all fun b => decide (b.toNat < 128)) = true ∧ (Lib.fields s).length ≤ 4294967281) (some (Lib.fields s))
theorem fields_w {P : Program} {f : FuncId} {E : TypeId} {g q : Nat} {w0 : World} {M : BS} (hc : ∀ (s : ByteArray) (w : World), s.size < 4294967281 → (∀ (j : Nat) b, s.data.toList[j]? = some b → b.toNat < 128) → Lib.TabIs P w "strings.asciiSpace" .u8 Lib.asciiSpaceTab →
    Calls P f #[.string s] w fun e w' => e = .returned (.slice (some ⟨w.heap.size, 0, none⟩) (Lib.fields s.data.toList).length (Lib.fields s.data.toList).length) ∧ w' = w.alloc (.cells ((Lib.fields s.data.toList).map fun l => Value.string ⟨l.toArray⟩).toArray E))
    (hq : P.globalNamed "strings.asciiSpace" = some q) (hM : ∀ b, M b → b < w0.heap.size) (hT : Tabs P g w0) {s : Str} {r : List Str} (hs : fieldsS s = some r) : Calls P f #[strV s] w0 (fun e w' => Grow w0 w' ∧ ∃ u, e = .returned u ∧ RdSl rStr w' M u r) := by
  obtain ⟨⟨h1, h2, h3⟩, hs⟩ := o_grd hs
  cases hs
  refine (hc ⟨s.toArray⟩ w0 (by rw [str_size]; exact h1) (fun j b hb => ?_) (hT.asc q hq)).mono ?_
  · have := List.all_eq_true.1 h2 b (List.mem_of_getElem? (by simpa using hb))
    simpa using this
  · rintro e w' ⟨rfl, rfl⟩
    refine ⟨Grow.alloc _ _, _, rfl, ?_⟩
    have := strs_rd (E := E) (l := (Lib.fields s).map fun l => (⟨l.toArray⟩ : ByteArray)) (cap := (Lib.fields s).length) (cells := ((Lib.fields s).map fun l => Value.string ⟨l.toArray⟩).toArray) w0 hM (by rw [List.length_map]; exact Nat.le_refl _) (by unfold maxLen; omega) (fun j hj => by simp)
    rw [List.length_map, List.map_map] at this
    have e : (List.map (((fun x => x.data.toList) : ByteArray → Str) ∘ fun l => ⟨l.toArray⟩) (Lib.fields s)) = Lib.fields s := by simp [Function.comp_def]
    simpa [Function.comp_def] using this
end Go.LX

namespace Go.LX
open Go.RowKit Go.Proofs Go.ChangeShapes
/-! What is laid lies apart: told run by run. -/
def inRun (b o : Nat) (r : Nat × Nat × Nat) : Bool := Nat.beq r.1 b && (Nat.ble r.2.1 o && Nat.blt o (r.2.1 + r.2.2))
def addRun (b o : Nat) : List (Nat × Nat × Nat) → List (Nat × Nat × Nat)
  | [] => [(b, o, 1)]
  | (c, s, l) :: r => bif Nat.beq c b && Nat.beq (o + 1) s then (b, o, l + 1) :: r else (b, o, 1) :: (c, s, l) :: r
def runsOf : List MemPlace → Option (List (Nat × Nat × Nat))
  | [] => some []
  | .cell b o :: r => (runsOf r).bind fun rs => bif rs.any (inRun b o) then none else some (addRun b o rs)
  | _ :: _ => none
theorem addRun_old {b o c q : Nat} {rs : List (Nat × Nat × Nat)} (h : rs.any (inRun c q) = true) : (addRun b o rs).any (inRun c q) = true := by
  cases rs with
  | nil => cases h
  | cons r rs =>
    obtain ⟨d, s, l⟩ := r
    have e : addRun b o ((d, s, l) :: rs) = bif Nat.beq d b && Nat.beq (o + 1) s then (b, o, l + 1) :: rs else (b, o, 1) :: (d, s, l) :: rs := rfl
    rw [e]
    cases hc : (Nat.beq d b && Nat.beq (o + 1) s) with
    | false => rw [cond_false, List.any_cons, h, Bool.or_true]
    | true =>
      rw [cond_true]
      simp only [Bool.and_eq_true, Nat.beq_eq] at hc
      obtain ⟨rfl, rfl⟩ := hc
      rw [List.any_cons] at h ⊢
      rcases Bool.or_eq_true_iff.1 h with h | h
      · unfold inRun at h ⊢
        simp only [Bool.and_eq_true, Nat.beq_eq, Nat.ble_eq, Nat.blt_eq] at h
        have : (Nat.beq d c && (Nat.ble o q && Nat.blt q (o + (l + 1)))) = true := by
          simp only [Bool.and_eq_true, Nat.beq_eq, Nat.ble_eq, Nat.blt_eq]; omega
        rw [this, Bool.true_or]
      · rw [h, Bool.or_true]
theorem addRun_new {b o : Nat} {rs : List (Nat × Nat × Nat)} : (addRun b o rs).any (inRun b o) = true := by
  cases rs with
  | nil => simp [addRun, inRun]
  | cons r rs =>
    obtain ⟨d, s, l⟩ := r
    have e : addRun b o ((d, s, l) :: rs) = bif Nat.beq d b && Nat.beq (o + 1) s then (b, o, l + 1) :: rs else (b, o, 1) :: (d, s, l) :: rs := rfl
    rw [e]
    cases (Nat.beq d b && Nat.beq (o + 1) s) with
    | false => simp [inRun]
    | true => simp [inRun]
theorem runsOf_nodup : ∀ {ps : List MemPlace} {rs : List (Nat × Nat × Nat)}, runsOf ps = some rs → ps.Nodup ∧ ∀ b o, MemPlace.cell b o ∈ ps → rs.any (inRun b o) = true
  | [], rs, h => ⟨List.nodup_nil, fun _ _ hm => by cases hm⟩
  | .cell b o :: r, rs, h => by
    unfold runsOf at h
    obtain ⟨q, hq, h⟩ := Option.bind_eq_some_iff.1 h
    obtain ⟨h1, h2⟩ := runsOf_nodup hq
    cases hc : q.any (inRun b o) with
    | true => rw [hc] at h; cases h
    | false =>
      rw [hc, cond_false] at h
      cases h
      refine ⟨List.nodup_cons.2 ⟨fun hm => (by rw [h2 b o hm] at hc; cases hc), h1⟩, fun c p hm => ?_⟩
      rcases List.mem_cons.1 hm with e | hm
      · cases e; exact addRun_new
      · exact addRun_old (h2 c p hm)
  | .map _ :: _, rs, h => by cases h
theorem laidMet_of_run2 {P : Program} {w : World} {l : List (String × DataW Unit)} (fuel : Nat) (h : (DataW.laidRun P w fuel (l.map (·.1))).map (·.1) = some l)
    (hr : (DataW.laidRun P w fuel (l.map (·.1))).map (fun x => (runsOf x.2).isSome && laidRowsB P w x.2) = some true) : laidMet P l w := by
  cases hx : DataW.laidRun P w fuel (l.map (·.1)) with
  | none => simp [hx] at h
  | some x =>
    obtain ⟨l', ps⟩ := x
    simp only [hx, Option.map_some, Option.some.injEq] at h hr
    subst h
    simp only [Bool.and_eq_true] at hr
    obtain ⟨rs, hrs⟩ := Option.isSome_iff_exists.1 hr.1
    exact laidMet_of_run fuel hx (decide_eq_true (runsOf_nodup hrs).1) hr.2
end Go.LX

namespace Go.LX
/-- Where a reader of words is, and whether all is well. -/
structure RdSt where
  at_ : Int
  ok : Bool
deriving DecidableEq
end Go.LX
