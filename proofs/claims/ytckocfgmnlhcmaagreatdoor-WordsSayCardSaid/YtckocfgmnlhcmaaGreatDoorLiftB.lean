/-
  Our own library, the second part.
-/
import Derived.Test.YtckocfgmnlhcmaaGreatDoorLift
import Derived.MapKept
import Derived.Lib.Bytealg
import Derived.ChangeArms
import Derived.Lib.AppendZeros
import Derived.Lib.Overlaps
import Derived.Laws.CopyRow
import Derived.Shelf.SlSortCmp.SmallK
import Derived.Laws.Pointers
set_option linter.unusedSimpArgs false
set_option linter.unusedVariables false
namespace Go.LX
open Go.RowKit Go.MapKept
def aget (z : Value) (ents : List (Int × Value)) (k : Int) : Value := match ents with | [] => z | p :: r => if k = p.1 then p.2 else aget z r k
def aset (ents : List (Int × Value)) (k : Int) (v : Value) : List (Int × Value) := match ents with | [] => [(k, v)] | p :: r => if k = p.1 then (p.1, v) :: r else p :: aset r k v
def ahas (ents : List (Int × Value)) (k : Int) : Bool := match ents with | [] => false | p :: r => if k = p.1 then true else ahas r k
def aidx (ents : List (Int × Value)) (k : Int) (i : Nat) : Option (Nat × Value) := match ents with | [] => none | p :: r => if k = p.1 then some (i, p.2) else aidx r k (i + 1)
theorem findNow_ints {ents : List (Int × Value)} {k : Int} : ∀ {es : List MapEntry} {i : Nat}, es.map (fun e => (e.key, e.val)) = ents.map (fun p => (Value.int .i64 p.1, p.2)) →
    Instr.findNow (.int .i64) (.int .i64 k) es i = some (aidx ents k i) := by
  induction ents with
  | nil => intro es i h; cases es with | nil => rfl | cons e r => simp at h
  | cons p r ih =>
    intro es i h
    cases es with
    | nil => simp at h
    | cons e s =>
      simp only [List.map_cons, List.cons.injEq, Prod.mk.injEq] at h
      obtain ⟨⟨h1, h2⟩, h3⟩ := h
      unfold Instr.findNow aidx
      by_cases hk : k = p.1
      · simp [Instr.sameNow, h1, h2, hk]
      · have : (k == p.1) = false := by simpa using hk
        simp [Instr.sameNow, h1, this, hk, ih h3]
theorem aidx_get {z : Value} {k : Int} : ∀ {ents : List (Int × Value)} {i : Nat}, aget z ents k = match aidx ents k i with | some (_, v) => v | none => z
  | [], i => rfl
  | p :: r, i => by
    unfold aget aidx
    by_cases hk : k = p.1
    · simp [hk]
    · simp only [hk, if_false]; exact aidx_get
theorem aidx_none {k : Int} {v : Value} : ∀ {ents : List (Int × Value)} {i : Nat}, aidx ents k i = none → aset ents k v = ents ++ [(k, v)]
  | [], i, _ => rfl
  | p :: r, i, h => by
    unfold aidx at h
    unfold aset
    by_cases hk : k = p.1
    · simp [hk] at h
    · simp only [hk, if_false] at h ⊢
      rw [aidx_none h]; rfl
theorem aidx_some {k : Int} {v u : Value} : ∀ {ents : List (Int × Value)} {i j : Nat}, aidx ents k i = some (j, u) → i ≤ j ∧ ∃ p, ents[j - i]? = some p ∧ p.1 = k ∧ aset ents k v = ents.set (j - i) (k, v)
  | [], i, j, h => by cases h
  | p :: r, i, j, h => by
    unfold aidx at h
    unfold aset
    by_cases hk : k = p.1
    · simp only [hk, if_true, Option.some.injEq, Prod.mk.injEq] at h
      obtain ⟨rfl, _⟩ := h
      refine ⟨Nat.le_refl _, p, by simp, hk.symm, ?_⟩
      simp [hk]
    · simp only [hk, if_false] at h ⊢
      obtain ⟨h1, q, h2, h3, h4⟩ := aidx_some (v := v) h
      refine ⟨by omega, q, ?_, h3, ?_⟩
      · rw [show j - i = (j - (i + 1)) + 1 by omega]; simpa using h2
      · rw [show j - i = (j - (i + 1)) + 1 by omega, h4]; simp
section
variable {P : Program} {ops : Array Oper} {Q : Exit → Act → World → Prop} {n : Nat} {env : Nat → Value} {w w' w0 : World} {M K : BS} {hp : Nat → Chunk} {rest : List Oper}
  {d : Option Nat} {op : Op} {ty : TypeId} {pos : String} {af : Array Edge} {v : Value} {g : Option (Nat × Bool)} {T : TypeId} {ρ : Operand → Value}
/-- A map type with int keys; z: the elements' zero. -/
structure MapOf (P : Program) (T : TypeId) (z : Value) : Prop where
  desc : ∃ K E, P.underlying T = some (.map K E) ∧ P.underlying K = some (.int .i64) ∧ (P.info? E).map (·.zero) = some (some z)
theorem r_makeMap : (execOp ρ ⟨d, .makeMap T none, ty, pos, af, g⟩).run P w = .ok (.value (.map (some w.heap.size))) (w.alloc (.map #[] 0)) := by
  simp [execOp, Instr.makeMap, World.alloc, -World.alloc_eq]
theorem ckInt {e : Bool} {K : TypeId} {k : Int} (hK : P.underlying K = some (.int .i64)) : (Instr.checkKey e 10000 K (.int .i64 k)).run P w = .ok () w :=
  run_checkKey hK (by trivial) e 9999
theorem BornOk.push {es : Array MapEntry} {c : Nat} (h : BornOk es c) (k v : Value) : BornOk (es.push { key := k, val := v, born := c }) (c + 1) := by
  refine ⟨fun e he => ?_, ?_⟩
  · simp only [Array.toList_push, List.mem_append, List.mem_singleton] at he
    rcases he with he | rfl
    · exact Nat.lt_succ_of_lt (h.1 e he)
    · exact Nat.lt_succ_self c
  · rw [Array.toList_push, List.map_append, List.nodup_append]
    refine ⟨h.2, by simp, fun x hx y hy => ?_⟩
    simp only [List.map_cons, List.map_nil, List.mem_singleton] at hy
    obtain ⟨e, he, rfl⟩ := List.mem_map.1 hx
    have := h.1 e he
    omega
theorem BornOk.modify {es : Array MapEntry} {c : Nat} (h : BornOk es c) (j : Nat) (k v : Value) : BornOk (es.modify j fun e => { e with key := k, val := v }) c := by
  have e : (es.modify j fun e => { e with key := k, val := v }).toList.map (·.born) = es.toList.map (·.born) := by
    apply List.ext_getElem?
    intro i
    simp only [List.getElem?_map, Array.getElem?_toList, Array.getElem?_modify]
    by_cases hi : j = i
    · subst hi; cases es[j]? <;> simp
    · simp [hi]
  refine ⟨fun x hx => ?_, by rw [e]; exact h.2⟩
  have : x.born ∈ (es.modify j fun e => { e with key := k, val := v }).toList.map (·.born) := List.mem_map.2 ⟨x, hx, rfl⟩
  rw [e] at this
  obtain ⟨y, hy, hyx⟩ := List.mem_map.1 this
  rw [← hyx]
  exact h.1 y hy
theorem r_lookup {z : Value} {x y : Operand} {b : Nat} {k : Int} {ents : List (Int × Value)} (hT : MapOf P T z) (hx : ρ x = .map (some b)) (hy : ρ y = .int .i64 k) (hb : MapIs w b ents) :
    (execOp ρ ⟨d, .lookup T x y false, ty, pos, af, g⟩).run P w = .ok (.value (aget z ents k)) w := by
  obtain ⟨K, E, h1, h2, h3⟩ := hT.desc
  obtain ⟨es, clock, hb, he, hbo⟩ := hb
  obtain ⟨i, hi, hz⟩ : ∃ i, P.info? E = some i ∧ i.zero = some z := by
    cases hi : P.info? E with
    | none => simp [hi] at h3
    | some i => simp [hi] at h3; exact ⟨i, rfl, h3⟩
  have hf := findNow_ints (k := k) (i := 0) he
  have hg : (getObj b).run P w = .ok (.map es clock) w := by simp [getObj, Sem.run, hb]
  rw [aidx_get (z := z) (k := k) (ents := ents) (i := 0)]
  simp only [execOp, Instr.lookup, underlying, hx, hy]
  have hc := fun e => ckInt (P := P) (w := w) (e := e) (K := K) (k := k) h2
  simp only [Sem.run_bind, run_program, Result.andThen_ok, h1, Sem.run_pure, hg, hc, Instr.findKey, underlying, h2, hf]
  cases ha : aidx ents k 0 with
  | none => simp [zeroValue, typeInfo, hi, hz]
  | some p => simp
theorem wl_mapUpdate {z : Value} {x y u : Operand} {b : Nat} {k : Int} {ents : List (Int × Value)} (hT : MapOf P T z) (hx : ev n env x = .map (some b)) (hy : ev n env y = .int .i64 k) (hu : ev n env u = v) (hb : MapIs w b ents)
    (h : ∀ w', Keep (fun x => x = b) w w' → MapIs w' b (aset ents k v) → WL P ops Q rest n (updo env d undef) w') :
    WL P ops Q (⟨d, .mapUpdate T x y u, ty, pos, af, none⟩ :: rest) n env w := by
  obtain ⟨K, E, h1, h2, h3⟩ := hT.desc
  obtain ⟨es, clock, hb, he, hbo⟩ := hb
  have hf := findNow_ints (k := k) (i := 0) he
  have hg : (getObj b).run P w = .ok (.map es clock) w := by simp [getObj, Sem.run, hb]
  have hlt := lt_of_blk hb
  have hc := fun e => ckInt (P := P) (w := w) (e := e) (K := K) (k := k) h2
  have hlen : es.toList.length = ents.length := by have := congrArg List.length he; simpa using this
  cases ha : aidx ents k 0 with
  | none =>
    refine wl_skip (w' := putb w b (.map (es.push { key := .int .i64 k, val := v, born := clock }) (clock + 1))) ?_ (h _ (Keep.putb _ _ _) ⟨_, _, putb_blk hlt, ?_, hbo.push _ _⟩)
    · rw [ha] at hf
      simp only [execOp, Instr.mapUpdate, underlying, hx, hy, hu]
      simp only [Sem.run_bind, run_program, Result.andThen_ok, h1, Sem.run_pure, hg, hc, Instr.findKey, underlying, h2, hf, run_setObj_map _ hb]
      rfl
    · rw [aidx_none ha]
      simp [he]
  | some p =>
    obtain ⟨j, u0⟩ := p
    obtain ⟨_, q, hq, hqk, hset⟩ := aidx_some (v := v) ha
    simp only [Nat.sub_zero] at hq hset
    have hj : j < es.size := by
      have h5 : j < ents.length := by
        rcases Nat.lt_or_ge j ents.length with h5 | h5
        · exact h5
        · rw [List.getElem?_eq_none h5] at hq; cases hq
      simpa [← hlen] using h5
    have hkey : es[j].key = .int .i64 k := by
      have h6 := congrArg (fun l => l[j]?) he
      simp [hq, hj] at h6
      rw [h6.1, hqk]
    refine wl_skip (w' := putb w b (.map (es.modify j fun e => { e with key := .int .i64 k, val := v }) clock)) ?_ (h _ (Keep.putb _ _ _) ⟨_, _, putb_blk hlt, ?_, hbo.modify _ _ _⟩)
    · rw [ha] at hf
      have hks : (Instr.keyThatStays (.int .i64 k) (.int .i64 k)).run P w = .ok (.int .i64 k) w := by simp [Instr.keyThatStays, Instr.sameBits]
      simp only [execOp, Instr.mapUpdate, underlying, hx, hy, hu]
      simp only [Sem.run_bind, run_program, Result.andThen_ok, h1, Sem.run_pure, hg, hc, Instr.findKey, underlying, h2, hf, Array.getElem?_eq_getElem hj, Option.map_some, Option.getD_some, hkey, hks, run_setObj_map _ hb]
      rfl
    · rw [hset, List.map_set, ← he]
      apply List.ext_getElem?
      intro i
      simp only [List.getElem?_map, Array.getElem?_toList, Array.getElem?_modify, List.getElem?_set, List.length_map, Array.length_toList]
      by_cases hi : j = i
      · subst hi; simp [hj]
      · simp [hi]
theorem wl_insert {z : Value} {x y u : Operand} {b : Nat} {k : Int} {ents : List (Int × Value)} (hT : MapOf P T z) (hx : ev n env x = .map (some b)) (hy : ev n env y = .int .i64 k) (hu : ev n env u = v) (hb : MapIs w b ents)
    (h : ∀ w', Keep (fun x => x = b) w w' → MapIs w' b (aset ents k v) → WL P ops Q rest n (updo env d undef) w') :
    WL P ops Q (⟨d, .insert T x y u, ty, pos, af, none⟩ :: rest) n env w := by
  obtain ⟨K, E, h1, h2, h3⟩ := hT.desc
  obtain ⟨es, clock, hb, he, hbo⟩ := hb
  have hf := findNow_ints (k := k) (i := 0) he
  have hg : (getObj b).run P w = .ok (.map es clock) w := by simp [getObj, Sem.run, hb]
  have hlt := lt_of_blk hb
  have hc := fun e => ckInt (P := P) (w := w) (e := e) (K := K) (k := k) h2
  have hlen : es.toList.length = ents.length := by have := congrArg List.length he; simpa using this
  cases ha : aidx ents k 0 with
  | none =>
    refine wl_skip (w' := putb w b (.map (es.push { key := .int .i64 k, val := v, born := clock }) (clock + 1))) ?_ (h _ (Keep.putb _ _ _) ⟨_, _, putb_blk hlt, ?_, hbo.push _ _⟩)
    · rw [ha] at hf
      simp only [execOp, Instr.mapUpdate, underlying, hx, hy, hu]
      simp only [Sem.run_bind, run_program, Result.andThen_ok, h1, Sem.run_pure, hg, hc, Instr.findKey, underlying, h2, hf, run_setObj_map _ hb]
      rfl
    · rw [aidx_none ha]
      simp [he]
  | some p =>
    obtain ⟨j, u0⟩ := p
    obtain ⟨_, q, hq, hqk, hset⟩ := aidx_some (v := v) ha
    simp only [Nat.sub_zero] at hq hset
    have hj : j < es.size := by
      have h5 : j < ents.length := by
        rcases Nat.lt_or_ge j ents.length with h5 | h5
        · exact h5
        · rw [List.getElem?_eq_none h5] at hq; cases hq
      simpa [← hlen] using h5
    have hkey : es[j].key = .int .i64 k := by
      have h6 := congrArg (fun l => l[j]?) he
      simp [hq, hj] at h6
      rw [h6.1, hqk]
    refine wl_skip (w' := putb w b (.map (es.modify j fun e => { e with key := .int .i64 k, val := v }) clock)) ?_ (h _ (Keep.putb _ _ _) ⟨_, _, putb_blk hlt, ?_, hbo.modify _ _ _⟩)
    · rw [ha] at hf
      have hks : (Instr.keyThatStays (.int .i64 k) (.int .i64 k)).run P w = .ok (.int .i64 k) w := by simp [Instr.keyThatStays, Instr.sameBits]
      simp only [execOp, Instr.mapUpdate, underlying, hx, hy, hu]
      simp only [Sem.run_bind, run_program, Result.andThen_ok, h1, Sem.run_pure, hg, hc, Instr.findKey, underlying, h2, hf, Array.getElem?_eq_getElem hj, Option.map_some, Option.getD_some, hkey, hks, run_setObj_map _ hb]
      rfl
    · rw [hset, List.map_set, ← he]
      apply List.ext_getElem?
      intro i
      simp only [List.getElem?_map, Array.getElem?_toList, Array.getElem?_modify, List.getElem?_set, List.length_map, Array.length_toList]
      by_cases hi : j = i
      · subst hi; simp [hj]
      · simp [hi]
theorem MapIs.lt {b : Nat} {ents : List (Int × Value)} (h : MapIs w b ents) : b < w.heap.size := let ⟨_, _, h, _⟩ := h; lt_of_blk h
theorem aidx_has {k : Int} : ∀ {ents : List (Int × Value)} {i : Nat}, ahas ents k = (aidx ents k i).isSome
  | [], i => rfl
  | p :: r, i => by
    unfold ahas aidx
    by_cases hk : k = p.1
    · simp [hk]
    · simp only [hk, if_false]; exact aidx_has
theorem r_lookup2 {z : Value} {x y : Operand} {b : Nat} {k : Int} {ents : List (Int × Value)} (hT : MapOf P T z) (hx : ρ x = .map (some b)) (hy : ρ y = .int .i64 k) (hb : MapIs w b ents) :
    (execOp ρ ⟨d, .lookup T x y true, ty, pos, af, g⟩).run P w = .ok (.value (.tuple #[aget z ents k, .bool (ahas ents k)])) w := by
  obtain ⟨K, E, h1, h2, h3⟩ := hT.desc
  obtain ⟨es, clock, hb, he, hbo⟩ := hb
  obtain ⟨i, hi, hz⟩ : ∃ i, P.info? E = some i ∧ i.zero = some z := by
    cases hi : P.info? E with
    | none => simp [hi] at h3
    | some i => simp [hi] at h3; exact ⟨i, rfl, h3⟩
  have hf := findNow_ints (k := k) (i := 0) he
  have hg : (getObj b).run P w = .ok (.map es clock) w := by simp [getObj, Sem.run, hb]
  rw [aidx_get (z := z) (k := k) (ents := ents) (i := 0), aidx_has (i := 0)]
  simp only [execOp, Instr.lookup, underlying, hx, hy]
  have hc := fun e => ckInt (P := P) (w := w) (e := e) (K := K) (k := k) h2
  simp only [Sem.run_bind, run_program, Result.andThen_ok, h1, Sem.run_pure, hg, hc, Instr.findKey, underlying, h2, hf]
  cases ha : aidx ents k 0 with
  | none => simp [zeroValue, typeInfo, hi, hz]
  | some p => simp
/-- A table, looked into. -/
def lk {α : Type} (k : Int) : List (Int × α) → Option α
  | [] => none
  | p :: r => if k = p.1 then some p.2 else lk k r
theorem aget_lk {α : Type} {f : α → Value} {z : α} {k : Int} : ∀ (l : List (Int × α)), aget (f z) (l.map fun p => (p.1, f p.2)) k = f ((lk k l).getD z)
  | [] => rfl
  | p :: r => by
    show (if k = p.1 then f p.2 else aget _ _ k) = f ((if k = p.1 then some p.2 else lk k r).getD z)
    by_cases h : k = p.1
    · simp [h]
    · simp only [h, if_false]; exact aget_lk r
theorem ahas_lk {α : Type} {f : α → Value} {k : Int} : ∀ (l : List (Int × α)), ahas (l.map fun p => (p.1, f p.2)) k = (lk k l).isSome
  | [] => rfl
  | p :: r => by
    show (if k = p.1 then true else ahas _ k) = (if k = p.1 then some p.2 else lk k r).isSome
    by_cases h : k = p.1
    · simp [h]
    · simp only [h, if_false]; exact ahas_lk r
theorem r_lk2 {α : Type} {f : α → Value} {zz : α} {z : Value} {x y : Operand} {b : Nat} {k : Int} {ents : List (Int × Value)} (l : List (Int × α)) (h : SH w0 M K w hp) (i : Nat) (hi : hp i = .mp b ents) (hT : MapOf P T z) (hx : ρ x = .map (some b)) (hy : ρ y = .int .i64 k) (hz : z = f zz) (he : ents = l.map fun p => (p.1, f p.2)) :
    (execOp ρ ⟨d, .lookup T x y true, ty, pos, af, g⟩).run P w = .ok (.value (.tuple #[f ((lk k l).getD zz), .bool (lk k l).isSome])) w := by
  have := r_lookup2 (d := d) (ty := ty) (pos := pos) (af := af) (g := g) hT hx hy (h.mpAt i hi)
  rw [hz, he, aget_lk, ahas_lk] at this
  exact this
theorem r_lk1 {α : Type} {f : α → Value} {zz : α} {z : Value} {x y : Operand} {b : Nat} {k : Int} {ents : List (Int × Value)} (l : List (Int × α)) (h : SH w0 M K w hp) (i : Nat) (hi : hp i = .mp b ents) (hT : MapOf P T z) (hx : ρ x = .map (some b)) (hy : ρ y = .int .i64 k) (hz : z = f zz) (he : ents = l.map fun p => (p.1, f p.2)) :
    (execOp ρ ⟨d, .lookup T x y false, ty, pos, af, g⟩).run P w = .ok (.value (f ((lk k l).getD zz))) w := by
  have := r_lookup (d := d) (ty := ty) (pos := pos) (af := af) (g := g) hT hx hy (h.mpAt i hi)
  rw [hz, he, aget_lk] at this
  exact this
theorem w_makeMap (h : SH w0 M K w hp) (i : Nat) (k : ∀ w' b, SH w0 M K w' (hupd hp i (.mp b [])) → WL P ops Q rest n (updo env d (.map (some b))) w') : WL P ops Q (⟨d, .makeMap T none, ty, pos, af, none⟩ :: rest) n env w :=
  wl_ok r_makeMap (k _ _ (h.learn i (Grow.alloc _ _) (fun b hb => Nat.le_of_eq hb.symm) ⟨#[], 0, alloc_blk _ _, rfl, by simp [BornOk]⟩))
theorem SH.mpSet {b : Nat} {ents ents' : List (Int × Value)} (h : SH w0 M K w hp) (i : Nat) (hi : hp i = .mp b ents) (hk : Keep (fun x => x = b) w w') (hm : MapIs w' b ents') : SH w0 M K w' (hupd hp i (.mp b ents')) :=
  h.step i hk (fun x hx _ => by rw [hi]; exact hx) (fun x hx _ => by rw [hi]; exact hx) hm
theorem w_insert {z : Value} {x y u : Operand} {b : Nat} {k : Int} {ents ents' : List (Int × Value)} (h : SH w0 M K w hp) (i : Nat) (hi : hp i = .mp b ents) (hT : MapOf P T z) (hx : ev n env x = .map (some b)) (hy : ev n env y = .int .i64 k) (hu : ev n env u = v) (he : aset ents k v = ents')
    (kk : ∀ w', SH w0 M K w' (hupd hp i (.mp b ents')) → WL P ops Q rest n (updo env d undef) w') : WL P ops Q (⟨d, .insert T x y u, ty, pos, af, none⟩ :: rest) n env w :=
  wl_insert hT hx hy hu (h.mpAt i hi) fun w' hk hm => kk w' (h.mpSet i hi hk (he ▸ hm))
theorem w_mapUpdate {z : Value} {x y u : Operand} {b : Nat} {k : Int} {ents ents' : List (Int × Value)} (h : SH w0 M K w hp) (i : Nat) (hi : hp i = .mp b ents) (hT : MapOf P T z) (hx : ev n env x = .map (some b)) (hy : ev n env y = .int .i64 k) (hu : ev n env u = v) (he : aset ents k v = ents')
    (kk : ∀ w', SH w0 M K w' (hupd hp i (.mp b ents')) → WL P ops Q rest n (updo env d undef) w') : WL P ops Q (⟨d, .mapUpdate T x y u, ty, pos, af, none⟩ :: rest) n env w :=
  wl_mapUpdate hT hx hy hu (h.mpAt i hi) fun w' hk hm => kk w' (h.mpSet i hi hk (he ▸ hm))
theorem r_len_map {x : Operand} {z : Value} {b : Nat} {ents : List (Int × Value)} (hT : MapOf P T z) (hx : ρ x = .map (some b)) (hb : MapIs w b ents) :
    (execOp ρ ⟨d, .call { callee := .builtin .len, args := #[x], argTypes := #[T] }, ty, pos, af, g⟩).run P w = .ok (.value (.int .i64 ents.length)) w := by
  obtain ⟨K, E, h1, h2, h3⟩ := hT.desc
  obtain ⟨es, clock, hb, he, hbo⟩ := hb
  have hlen : es.size = ents.length := by have := congrArg List.length he; simpa using this
  have hg : (getObj b).run P w = .ok (.map es clock) w := by simp [getObj, Sem.run, hb]
  simp [execOp, resolve, invoke, builtin, Builtin.len_, hx, underlying, h1, hg, goInt, hlen]
end
theorem SH.argPt {w : World} {M K : BS} {hp : Nat → Chunk} {w0 : World} {b : Nat} {cs : List Value} (h : SH w0 M K w hp) (i : Nat) (ho : ∃ E, w.heap[b]? = some (.cells cs.toArray E (0, 0))) (hn : ∀ b, ¬ allOwn hp b) : SH w0 M K w (hupd hp i (.pt b 0 cs)) := by
  obtain ⟨E, ho⟩ := ho
  exact h.know i (fun _ h => h) ⟨hn b, _, _, _, ho, by simp⟩
end Go.LX

namespace Go.LX
open Go.RowKit
/-- Is a byte in a text? -/
def hasB (s : Str) (c : UInt8) : Bool := decide (0 ≤ Go.Lib.indexByte s c)
section
variable {P : Program} {ops : Array Oper} {Q : Exit → Act → World → Prop} {n : Nat} {env : Nat → Value} {w : World} {rest : List Oper}
  {d : Option Nat} {ty : TypeId} {pos : String} {af : Array Edge} {v : Value} {x : Operand}
/-- A guarded call of a function value that a guard lets stand. -/
theorem w_callH {f : FuncId} (captured : List Value) {xs : Array Operand} {ts : Array TypeId} {args : List Value} {j dj : Nat} {b want : Bool} (c0 : Bool) (hd : (ops[j]?).bind (·.dst) = some dj) (hv : ev n env (.tmp dj) = gv c0 (.bool b)) (hf : FnOk P f) (hx : (c0 && (b == want)) = true → ev n env x = .func (.func f) #[] captured.toArray)
    (ha : (c0 && (b == want)) = true → xs.toList.map (ev n env) ++ captured = args) (hc : Calls P f args.toArray w (fun e w' => Grow w w' ∧ e = .returned v))
    (k : ∀ w', Grow w w' → WL P ops Q rest n (updo env d (gv (c0 && (b == want)) v)) w') :
    WL P ops Q (⟨d, .call { callee := .value x, args := xs, argTypes := ts }, ty, pos, af, some (j, want)⟩ :: rest) n env w := by
  by_cases hcc : (c0 && (b == want)) = true
  · have h0 := gl hcc
    have h1 := gr hcc
    rw [gvt h0] at hv
    have hb : b = want := by simpa using h1
    subst hb
    refine wl_on hd hv (w_call hf (hx hcc) (by simpa using ha hcc) hc ?_)
    rintro e w' ⟨hk, rfl⟩
    refine ⟨_, rfl, ?_⟩
    have := k w' hk
    rw [gvt hcc] at this
    exact this
  · have hc' : (c0 && (b == want)) = false := by simpa using hcc
    have h := k w (Keep.refl _ _)
    rw [hc'] at h
    cases c0 with
    | true => exact wl_off hd hv (by simpa using hc') h
    | false => exact wl_offU hd hv h
theorem w_callH0 {f : FuncId} (captured : List Value) {xs : Array Operand} {ts : Array TypeId} {args : List Value} {j dj : Nat} {b want : Bool} (hd : (ops[j]?).bind (·.dst) = some dj) (hv : ev n env (.tmp dj) = .bool b) (hf : FnOk P f) (hx : (b == want) = true → ev n env x = .func (.func f) #[] captured.toArray)
    (ha : (b == want) = true → xs.toList.map (ev n env) ++ captured = args) (hc : Calls P f args.toArray w (fun e w' => Grow w w' ∧ e = .returned v))
    (k : ∀ w', Grow w w' → WL P ops Q rest n (updo env d (gv (b == want) v)) w') :
    WL P ops Q (⟨d, .call { callee := .value x, args := xs, argTypes := ts }, ty, pos, af, some (j, want)⟩ :: rest) n env w :=
  w_callH captured true hd hv hf (fun h => hx (by simpa using h)) (fun h => ha (by simpa using h)) hc (by simpa using k)
end
end Go.LX

namespace Go.LX
open Go.RowKit Go.Deep
/-- As 'Opens', down to a depth. -/
def OpensTo {α : Type} (P : Program) (T : TypeId) (R : Rep α) (m : Nat) : Prop :=
  ∀ (H : Type) (enc : TypeId × Value → H) (w : World) (spare : Nat → Bool) (held : Bool) (fuel : Nat) (cs : List Value) (x : DataW H × List MemPlace), fuel ≤ m → DataW.trod enc P w 0 spare held fuel T cs = some x → ∃ d, R.rd w BE cs d
theorem Opens.to {α : Type} {P : Program} {T : TypeId} {R : Rep α} (h : Opens P T R) (m : Nat) : OpensTo P T R m := fun H enc w spare held fuel cs x _ hx => h H enc w spare held fuel cs x hx
theorem opens_of {α : Type} {P : Program} {T : TypeId} {R : Rep α} (h : ∀ m, OpensTo P T R m) : Opens P T R := fun H enc w spare held fuel cs x hx => h fuel H enc w spare held fuel cs x (Nat.le_refl _) hx
theorem OpensTo.le {α : Type} {P : Program} {T : TypeId} {R : Rep α} {m n : Nat} (h : OpensTo P T R m) (hn : n ≤ m) : OpensTo P T R n := fun H enc w spare held fuel cs x hf hx => h H enc w spare held fuel cs x (Nat.le_trans hf hn) hx
theorem opens_sliceTo {α : Type} {P : Program} {T E : TypeId} {R : Rep α} {m0 : Nat} (ht : P.underlying T = some (.slice E)) (hc : P.cellsOf E = R.sz) (h : OpensTo P E R m0) : OpensTo P T (rSl R) m0 := by
  intro H enc w spare held fuel cs x hfu hx
  rcases DataW.trod_slice ht hx with ⟨rfl, rfl⟩ | ⟨a, len, cap, elems, rest, n, hfe, rfl, rfl, _, hl, hm, hlen, hel0, _, _⟩
  · exact ⟨[], _, rfl, Rd2.nil⟩
  · have hel : ∀ i, i < len → ∃ cs', w.cells? 0 (a.add (i * P.cellsOf E)) (P.cellsOf E) = some cs' ∧ ∃ y, DataW.trod enc P w 0 spare held n E cs' = some y := by
      intro i hi
      have := hel0 i hi
      rw [List.getElem?_eq_getElem (by omega)] at this
      obtain ⟨c, h1, h2⟩ := Option.bind_eq_some_iff.1 this
      exact ⟨c, h1, _, h2⟩
    have key : ∀ i, i < len → ∃ d : α, ∃ b o cells F fz, a = ⟨b, o, none⟩ ∧ w.heap[b]? = some (.cells cells F fz) ∧ R.rd w BE ((cells.toList.drop (o + i * R.sz)).take R.sz) d := by
      intro i hi
      obtain ⟨cs', h1, y, h2⟩ := hel i (by omega)
      obtain ⟨d, hd⟩ := h H enc w spare held n cs' _ (by omega) h2
      refine ⟨d, ?_⟩
      rw [hc] at h1
      obtain ⟨_, hlen, hcell⟩ := World.cells?_some h1
      have hp := R.pos
      have hsp : a.spot = none := by
        obtain ⟨cs0, g1, _⟩ := hel 0 (by omega)
        rw [hc] at g1
        obtain ⟨_, glen, gcell⟩ := World.cells?_some g1
        have g0 := gcell 0 hp
        rw [Nat.zero_mul, add_add, Nat.zero_add] at g0
        have : ∃ v, cs0[0]? = some v := ⟨cs0[0]'(by omega), List.getElem?_eq_getElem (by omega)⟩
        obtain ⟨v, hv⟩ := this
        rw [hv] at g0
        have := World.cell?_spot g0
        simpa [Addr.add] using this
      obtain ⟨b, o, sp⟩ := a
      simp only at hsp
      subst hsp
      have hadd : ∀ k, (⟨b, o, none⟩ : Addr).add k = ⟨b, o + k, none⟩ := by
        intro k; unfold Addr.add; split <;> simp_all
      have hc0 : ∀ j, j < R.sz → w.cell? ⟨b, o + i * R.sz + j, none⟩ = cs'[j]? := by
        intro j hj
        have := hcell j hj
        rw [add_add, hadd] at this
        rw [← this, Nat.add_assoc]
      have h0 := hc0 0 hp
      have hv : cs'[0]? = some (cs'[0]'(by omega)) := List.getElem?_eq_getElem (by omega)
      rw [hv] at h0
      unfold World.cell? at h0
      cases hb : w.heap[b]? with
      | none => simp [hb] at h0
      | some ob =>
        cases ob with
        | cells cells F fz =>
          refine ⟨b, o, cells, F, fz, rfl, hb, ?_⟩
          have e : (cells.toList.drop (o + i * R.sz)).take R.sz = cs' := by
            apply List.ext_getElem?
            intro j
            rw [List.getElem?_take, List.getElem?_drop]
            by_cases hj : j < R.sz
            · rw [if_pos hj, ← hc0 j hj]
              simp [World.cell?, hb]
            · rw [if_neg hj, List.getElem?_eq_none (by omega)]
          rw [e]
          exact hd
        | _ => simp [hb] at h0
    obtain ⟨f, hf⟩ : ∃ f : (i : Nat) → i < len → α, ∀ i hi, ∃ b o cells F fz, a = ⟨b, o, none⟩ ∧ w.heap[b]? = some (.cells cells F fz) ∧ R.rd w BE ((cells.toList.drop (o + i * R.sz)).take R.sz) (f i hi) :=
      ⟨fun i hi => Classical.choose (key i hi), fun i hi => Classical.choose_spec (key i hi)⟩
    refine ⟨List.ofFn (fun i : Fin len => f i.val i.isLt), _, rfl, some a, cap, by simp, by simpa using hl, hm, (fun h => by cases h), ?_⟩
    intro i hi
    have hi' : i < len := by simpa using hi
    obtain ⟨b, o, cells, F, fz, rfl, hb, hr⟩ := hf i hi'
    refine ⟨b, o, cells, F, fz, rfl, fun h => h, hb, ?_⟩
    simpa using hr
theorem field_trodTo {H : Type} {enc : TypeId × Value → H} {P : Program} {w : World} {spare : Nat → Bool} {held : Bool} {T : TypeId} {fs : Array Field} {fuel : Nat} {cs : List Value} {x : DataW H × List MemPlace} (ht : P.underlying T = some (.struct fs)) (h : DataW.trod enc P w 0 spare held fuel T cs = some x) :
    cs.length = P.cellsOf T ∧ ∃ n : Nat, fuel = n + 1 ∧ ∀ (i : Nat) (f : Field), fs[i]? = some f → ∃ y : DataW H × List MemPlace, DataW.trod enc P w 0 spare held n f.type ((cs.drop f.offset).take (P.cellsOf f.type)) = some y := by
  obtain ⟨xs, n, hfu, _, hl, hxs, hf⟩ := DataW.trod_struct ht h
  refine ⟨hl, n, hfu, fun i f hi => ?_⟩
  have := hf i f hi
  have hlt : i < xs.length := by
    rw [hxs]
    rcases Nat.lt_or_ge i fs.size with h1 | h1
    · exact h1
    · rw [Array.getElem?_eq_none h1] at hi; cases hi
  rw [List.getElem?_eq_getElem hlt] at this
  exact ⟨_, this⟩
theorem field_opensTo {α : Type} {H : Type} {enc : TypeId × Value → H} {P : Program} {w : World} {spare : Nat → Bool} {held : Bool} {fs : Array Field} {n : Nat} {cs : List Value} {R : Rep α} {i : Nat} {f : Field}
    (h : ∀ (i : Nat) (f : Field), fs[i]? = some f → ∃ y : DataW H × List MemPlace, DataW.trod enc P w 0 spare held n (Field.type f) ((cs.drop f.offset).take (P.cellsOf f.type)) = some y) (hi : fs[i]? = some f) (hc : P.cellsOf f.type = R.sz) (hR : OpensTo P f.type R n) :
    ∃ d, R.rd w BE ((cs.drop f.offset).take R.sz) d := by
  obtain ⟨y, hy⟩ := h i f hi
  rw [hc] at hy
  exact hR H enc w spare held n _ _ (Nat.le_refl _) hy
end Go.LX

namespace Go.LX
open Go.RowKit
section
variable {P : Program} {ops : Array Oper} {Q : Exit → Act → World → Prop} {n : Nat} {env : Nat → Value} {w w' w0 : World} {M K : BS} {hp : Nat → Chunk} {rest : List Oper}
  {d : Option Nat} {op : Op} {ty : TypeId} {pos : String} {af : Array Edge} {v : Value} {g : Option (Nat × Bool)} {T : TypeId} {ρ : Operand → Value}
theorem r_cap {x : Operand} {T E : TypeId} {sz : Nat} {a : Option Addr} {l c : Nat} (hT : SliceOf P T E sz) (hx : ρ x = .slice a l c) :
    (execOp ρ ⟨d, .call { callee := .builtin .cap, args := #[x], argTypes := #[T] }, ty, pos, af, g⟩).run P w = .ok (.value (.int .i64 c)) w := by
  simp [execOp, resolve, invoke, builtin, Builtin.cap_, hx, underlying, hT.desc, goInt]
theorem run_append_zeros_grow (w : World) (t tn ty e : TypeId) (i : TypeInfo) (z : Value) (ht : P.underlying t = some (.slice e)) (htn : P.underlying tn = some (.int .i64)) (hi : P.info? e = some i) (hz : i.zero = some z) (hs : 0 < i.size)
    (b : Addr) (sLen sCap : Nat) (olds : List Value) (hlo : olds.length = sLen * i.size) (holds : ∀ j v, olds[j]? = some v → w.cell? (b.add j) = some v)
    (n : Nat) (h0 : 0 < n) (hg : sCap < sLen + n) (h63 : ((sLen + n : Nat) : Int) ≤ 9223372036854775807) (hfit : Builtin.nextslicecap (sLen + n) sCap * i.bytes ≤ 281474976710656) (h48 : n * i.bytes ≤ 281474976710656) :
    (Builtin.append_ #[t, tn] ty #[.slice (some b) sLen sCap, .int .i64 n]).run P w =
      .ok (.slice (some ⟨w.heap.size, 0, none⟩) (sLen + n) (grownCap w (sLen + n) sCap e))
        (w.drew.alloc (.cells (olds.toArray ++ Builtin.zeroCells z.cells n ++ Builtin.zeroCells z.cells (grownCap w (sLen + n) sCap e - (sLen + n))) e)) := by
  have hn : ¬ (sLen + n ≤ sCap) := by omega
  have hn0 : n ≠ 0 := by omega
  have h63' : ¬ (9223372036854775807 < ((sLen : Int) + (n : Int))) := by omega
  have h48' : ¬ (281474976710656 < Builtin.nextslicecap (sLen + n) sCap * i.bytes) := by omega
  have hw : IntKind.i64.wrap (n : Int) = n := by rw [IntKind.wrap_i64]; omega
  have h48i : ¬ (281474976710656 < (n : Int) * (i.bytes : Int)) := by
    rw [← Int.natCast_mul]
    omega
  have hneg : ¬ ((n : Int) < 0) := by omega
  have hns : ¬ (n * i.size = 0) := Nat.mul_ne_zero hn0 (by omega)
  have hfo := run_firstCells_some (P := P) w.drew i.size sLen b sLen sCap olds hlo (by simpa using holds)
  simp [Builtin.append_, run_underlying ht, run_underlying htn, sizeOf, typeInfo, zeroValue, hi, hz, asInt, asIntOf, hw, hn, hn0, hneg, hns, h63', h48', h48i, Question.forced, hfo, newRow, grownCap]
/-- More room than there is: a new row. -/
theorem wl_growRaw {x y : Operand} {E tn : TypeId} {sz bytes gg cap a k : Nat} {cur : List Value} (hT : ElemOf P T E sz bytes) (ht : P.underlying tn = some (.int .i64)) (hr : Raw w gg cap sz E cur) (hx : ev n env x = .slice (some ⟨gg, 0, none⟩) a cap) (hy : ev n env y = .int .i64 (k : Nat)) (hs : 0 < sz) (hac : a ≤ cap) (hk : 0 < k) (hg : cap < a + k)
    (hb : (a + k) * bytes ≤ 140737488355328) (hm : a + k ≤ maxLen)
    (h : ∀ w' g2 cap2 cur2, Grow w w' → w.heap.size ≤ g2 → a + k ≤ cap2 → Raw w' g2 cap2 sz E cur2 → cur2.take (a * sz) = cur.take (a * sz) → WL P ops Q rest n (updo env d (.slice (some ⟨g2, 0, none⟩) (a + k) cap2)) w') :
    WL P ops Q (⟨d, .call { callee := .builtin .append, args := #[x, y], argTypes := #[T, tn] }, ty, pos, af, none⟩ :: rest) n env w := by
  obtain ⟨i, z, hi, hz, hsz, hby, hzs⟩ := hT.info
  have hac2 : a * sz ≤ cap * sz := Nat.mul_le_mul_right _ hac
  have hlen := hr.len
  have hol : (cur.take (a * sz)).length = a * sz := by rw [List.length_take]; omega
  have holds : ∀ j u, (cur.take (a * sz))[j]? = some u → w.cell? ((⟨gg, 0, none⟩ : Addr).add j) = some u := by
    intro j u hj
    rw [addr_add, Nat.zero_add]
    rw [List.getElem?_take] at hj
    split at hj
    · simp [World.cell?, hr.blk, hj]
    · cases hj
  have hmi : ((a + k : Nat) : Int) ≤ 9223372036854775807 := by simp only [maxLen] at hm; omega
  have hns : Builtin.nextslicecap (a + k) cap ≤ 2 * (a + k) := by
    exact nextslicecap_le (by omega)
  have hfit : Builtin.nextslicecap (a + k) cap * i.bytes ≤ 281474976710656 := by
    have := Nat.mul_le_mul_right i.bytes hns
    rw [Nat.mul_assoc, hby] at this
    rw [hby]; omega
  have h48 : k * i.bytes ≤ 281474976710656 := by
    rw [hby]
    have : k * bytes ≤ (a + k) * bytes := Nat.mul_le_mul_right _ (by omega)
    omega
  have hrun0 := run_append_zeros_grow (P := P) w T tn ty E i z hT.desc ht hi hz (by omega) ⟨gg, 0, none⟩ a cap (cur.take (a * sz)) (by rw [hsz]; exact hol) holds k hk hg hmi hfit h48
  have hrun : (execOp (ev n env) ⟨d, .call { callee := .builtin .append, args := #[x, y], argTypes := #[T, tn] }, ty, pos, af, none⟩).run P w = .ok (.value (.slice (some ⟨w.heap.size, 0, none⟩) (a + k) (grownCap w (a + k) cap E))) (w.drew.alloc (.cells ((cur.take (a * sz)).toArray ++ Builtin.zeroCells z.cells k ++ Builtin.zeroCells z.cells (grownCap w (a + k) cap E - (a + k))) E)) := by
    simp only [execOp, resolve, invoke, builtin, Sem.run_bind, Sem.run_pure, Result.andThen_ok, List.map_toArray, List.map_cons, List.map_nil, hx, hy, hrun0]
  have hge := grownCap_ge w (a + k) cap E
  have hcm : grownCap w (a + k) cap E ≤ maxLen := grownCap_le_maxLen w (a + k) cap E hm
  refine wl_ok hrun (h _ _ _ ((cur.take (a * sz)) ++ (Builtin.zeroCells z.cells k).toList ++ (Builtin.zeroCells z.cells (grownCap w (a + k) cap E - (a + k))).toList) ?_ (Nat.le_refl _) hge ⟨?_, ?_, hcm⟩ ?_)
  · exact (Grow.drew w).trans (Grow.alloc _ _)
  · have := heap_alloc_new w.drew (.cells ((cur.take (a * sz)).toArray ++ Builtin.zeroCells z.cells k ++ Builtin.zeroCells z.cells (grownCap w (a + k) cap E - (a + k))) E)
    rw [show ((cur.take (a * sz)) ++ (Builtin.zeroCells z.cells k).toList ++ (Builtin.zeroCells z.cells (grownCap w (a + k) cap E - (a + k))).toList).toArray = ((cur.take (a * sz)).toArray ++ Builtin.zeroCells z.cells k ++ Builtin.zeroCells z.cells (grownCap w (a + k) cap E - (a + k))) by apply Array.ext'; simp]
    exact this
  · rw [List.length_append, List.length_append, hol, Array.length_toList, Array.length_toList, size_zeroCells, size_zeroCells, hzs, ← Nat.add_mul, ← Nat.add_mul]
    congr 1; omega
  · rw [List.append_assoc, List.take_append_of_le_length (by omega), List.take_of_length_le (by omega)]
theorem run_copyN (w : World) (dT sT ty elem : TypeId) (i : TypeInfo) (g o dLen dCap : Nat) (a : Addr) (sLen sCap : Nat) (cur : Array Value) (t : TypeId) (cs : List Value)
    (hu : P.underlying dT = some (.slice elem)) (hi : P.info? elem = some i)
    (hg : w.heap[g]? = some (.cells cur t (0, 0))) (hn : cs.length = Nat.min sLen dLen * i.size)
    (hsrc : ∀ j v, cs[j]? = some v → w.cell? (a.add j) = some v) (hfit : o + cs.length ≤ cur.size) (h1 : ∀ v ∈ cs, v.oneCell' = true) :
    (Builtin.copy_ #[dT, sT] ty #[.slice (some ⟨g, o, none⟩) dLen dCap, .slice (some a) sLen sCap]).run P w =
      .ok (goInt (Nat.min sLen dLen)) (w.setRow g (cur.toList.take o ++ cs ++ cur.toList.drop (o + cs.length)).toArray) := by
  have hl := run_loadCells_list (P := P) w a cs hsrc
  have hst := run_storeCells_at P g o t cs 0 cur w hg (by simpa using hfit) h1
  simp [Builtin.copy_, run_underlying hu, Builtin.lenOf, Builtin.firstCells, sizeOf, typeInfo, hi, ← hn, hl, hst]
/-- Elements copied into a row. -/
theorem wl_copyRaw {x y : Operand} {E sT : TypeId} {sz bytes gg cap o dl dc m c : Nat} {cur news : List Value} {ad : Addr} (hT : ElemOf P T E sz bytes) (hr : Raw w gg cap sz E cur) (hx : ev n env x = .slice (some ⟨gg, o * sz, none⟩) dl dc) (hy : ev n env y = .slice (some ad) m c)
    (hl : news.length = Nat.min m dl * sz) (hnews : ∀ j u, news[j]? = some u → w.cell? (ad.add j) = some u) (h1 : ∀ u ∈ news, u.oneCell' = true) (hfit : o + Nat.min m dl ≤ cap)
    (h : ∀ w', Keep (fun x => x = gg) w w' → Raw w' gg cap sz E (cur.take (o * sz) ++ news ++ cur.drop (o * sz + news.length)) → WL P ops Q rest n (updo env d (.int .i64 (Nat.min m dl : Nat))) w') :
    WL P ops Q (⟨d, .call { callee := .builtin .copy, args := #[x, y], argTypes := #[T, sT] }, ty, pos, af, none⟩ :: rest) n env w := by
  obtain ⟨i, z, hi, hz, hsz, hby, hzs⟩ := hT.info
  have hlen := hr.len
  have hle : o * sz + news.length ≤ cap * sz := by rw [hl, ← Nat.add_mul]; exact Nat.mul_le_mul_right _ hfit
  have hrun0 := run_copyN (P := P) w T sT ty E i gg (o * sz) dl dc ad m c cur.toArray E news hT.desc hi hr.blk (by rw [hsz]; exact hl) hnews (by simpa [hlen] using hle) h1
  rw [setRow_putb hr.blk] at hrun0
  have hrun : (execOp (ev n env) ⟨d, .call { callee := .builtin .copy, args := #[x, y], argTypes := #[T, sT] }, ty, pos, af, none⟩).run P w = .ok (.value (.int .i64 (Nat.min m dl : Nat))) (putb w gg (.cells (cur.take (o * sz) ++ news ++ cur.drop (o * sz + news.length)).toArray E (0, 0))) := by
    simp only [execOp, resolve, invoke, builtin, Sem.run_bind, Sem.run_pure, Result.andThen_ok, List.map_toArray, List.map_cons, List.map_nil, hx, hy, hrun0]
    rfl
  refine wl_ok hrun (h _ (Keep.putb _ _ _) ⟨putb_blk (lt_of_blk hr.blk), ?_, hr.le⟩)
  rw [List.length_append, List.length_append, List.length_take, List.length_drop, hlen]
  omega
/-- Two slices in two blocks do not overlap. -/
structure OverFn (P : Program) (f : FuncId) (T B : TypeId) : Prop where
  out : ∀ (args : Array Value) (w : World), (callFunc f args).run P w = ((Extern.SlicesOverlaps.overlaps #[T, T] #[B] args).run P w).andThen fun v w' => .ok (.value v) w'
theorem wl_overlaps {x : Operand} {xs : Array Operand} {ts : Array TypeId} {f : FuncId} {E B : TypeId} {sz bytes g1 g2 c2 o1 o2 m1 m2 k1 k2 : Nat} {cur1 cur2 : List Value} {E1 : TypeId} (hf : OverFn P f T B) (hT : ElemOf P T E sz bytes) (h1 : w.heap[g1]? = some (.cells cur1.toArray E1 (0, 0))) (h2 : Raw w g2 c2 sz E cur2) (hne : g1 ≠ g2) (hpos : 0 < c2 * sz)
    (hx : ev n env x = .func (.func f) #[] #[]) (hxs : xs.toList.map (ev n env) = [.slice (some ⟨g1, o1, none⟩) m1 k1, .slice (some ⟨g2, o2, none⟩) m2 k2])
    (h : WL P ops Q rest n (updo env d (.bool false)) w) :
    WL P ops Q (⟨d, .call { callee := .value x, args := xs, argTypes := ts }, ty, pos, af, none⟩ :: rest) n env w := by
  obtain ⟨i, z, hi, hz, hsz, hby, hzs⟩ := hT.info
  have ho := Lib.run_overlaps_apart (P := P) w T B E hT.desc sz (fun w => by simp [sizeOf, typeInfo, hi, hsz]) ⟨g1, o1, none⟩ ⟨g2, o2, none⟩ m1 k1 m2 k2 hne E1 E cur1.length cur2.length (by simp [World.shape?, h1]) (by simp [World.shape?, h2.blk]) (by rw [h2.len]; omega) (by simp [World.frozen?, h1]) (by simp [World.frozen?, h1])
  have hxs2 : xs.map (ev n env) = #[.slice (some ⟨g1, o1, none⟩) m1 k1, .slice (some ⟨g2, o2, none⟩) m2 k2] := by
    apply Array.ext'; simpa using hxs
  have hrun := hf.out #[.slice (some ⟨g1, o1, none⟩) m1 k1, .slice (some ⟨g2, o2, none⟩) m2 k2] w
  rw [ho] at hrun
  refine wl_ok ?_ h
  simp only [execOp, resolve, hx, Deferred.ofValue, invoke]
  simp [hxs2, hrun]
end
end Go.LX

namespace Go.LX
open Go.RowKit
section
variable {β : Type}
theorem ins_l1 {C X : List β} {p s : Nat} (hX : X.length = s) (hp : p ≤ C.length) : (C.take p ++ X ++ C.drop (p + s)).take (p + s) = C.take p ++ X := by
  have h : (C.take p ++ X).length = p + s := by simp [hX]; omega
  rw [← h, List.take_left]
theorem ins_l2 {B D R : List β} {p q : Nat} (hB : p ≤ B.length) (hD : D.length = q) : (B.take p ++ D ++ R).take (p + q) = B.take p ++ D := by
  have h : (B.take p ++ D).length = p + q := by simp [hD]; omega
  rw [← h, List.take_left]
theorem ins_l3 {C X D R : List β} {p s q : Nat} (hX : X.length = s) (hp : p + s ≤ C.length) (hD : D.length = q) :
    ((C.take (p + s) ++ D ++ R).take p ++ X ++ (C.take (p + s) ++ D ++ R).drop (p + s)).take (p + s + q) = C.take p ++ X ++ D := by
  have h1 : (C.take (p + s)).length = p + s := by simp; omega
  have e1 : (C.take (p + s) ++ D ++ R).take p = C.take p := by
    rw [List.append_assoc, List.take_append_of_le_length (by omega), List.take_take, Nat.min_eq_left (by omega)]
  have e2 : (C.take (p + s) ++ D ++ R).drop (p + s) = D ++ R := by
    rw [List.append_assoc]
    exact List.drop_left' h1
  rw [e1, e2, ← List.append_assoc]
  have h2 : (C.take p ++ X ++ D).length = p + s + q := by simp [hX, hD]; omega
  rw [← h2, List.take_left]
end
theorem raw_ins {α : Type} {R : Rep α} {E : TypeId} {w w' : World} {A N : BS} {l : List α} {x : α} {gg g2 cap2 i : Nat} {cur cur' xc : List Value} (hr : Raw w' g2 cap2 R.sz E cur') (hk : Keep (fun y => y = gg) w w') (hg2 : g2 < w.heap.size → g2 = gg) (hi : i ≤ l.length) (hc : l.length + 1 ≤ cap2) (hcl : l.length * R.sz ≤ cur.length)
    (hrd : ∀ k (h : k < l.length), R.rd w (fun b => A b ∨ b = gg) ((cur.drop (k * R.sz)).take R.sz) l[k]) (hx : R.rd w N xc x) (hN : ∀ b, (A b ∨ b = gg) → b < w.heap.size → N b) (hgg : gg < w.heap.size)
    (ht : cur'.take (i * R.sz + R.sz + (l.length - i) * R.sz) = cur.take (i * R.sz) ++ xc ++ (cur.drop (i * R.sz)).take ((l.length - i) * R.sz)) :
    OwnSl R E w' A (.slice (some ⟨g2, 0, none⟩) (l.length + 1) cap2) (l.take i ++ [x] ++ l.drop i) := by
  have hll : (l.take i ++ [x] ++ l.drop i).length = l.length + 1 := by simp; omega
  have hxl := R.len hx
  have hil : i * R.sz ≤ l.length * R.sz := Nat.mul_le_mul_right _ hi
  have hsub : (l.length - i) * R.sz = l.length * R.sz - i * R.sz := Nat.sub_mul _ _ _
  have hti : (cur.take (i * R.sz)).length = i * R.sz := by rw [List.length_take]; omega
  have e0 : (l.length + 1) * R.sz = i * R.sz + R.sz + (l.length - i) * R.sz := by rw [Nat.add_mul, hsub]; omega
  have hgo : ∀ cs a, R.rd w (fun b => A b ∨ b = gg) cs a → R.rd w' (fun b => A b ∨ ob (.slice (some ⟨g2, 0, none⟩) (l.length + 1) cap2) b) cs a := fun cs a h =>
    R.go h hk (fun b hb _ => .inr hb) (fun b hb hl => hb.elim .inl (fun hb => .inr (by have : b = g2 := hb; subst this; exact hg2 hl)))
  have hx2 : R.rd w' (fun b => A b ∨ ob (.slice (some ⟨g2, 0, none⟩) (l.length + 1) cap2) b) xc x :=
    R.go hx hk (fun b hb hl => hN b (.inr hb) hl) (fun b hb hl => hN b (hb.elim .inl (fun hb => .inr (by have : b = g2 := hb; subst this; exact hg2 hl))) hl)
  refine ⟨cur.take (i * R.sz) ++ xc ++ (cur.drop (i * R.sz)).take ((l.length - i) * R.sz), ⟨?_, .inr ⟨g2, cap2, cur'.toArray, ?_, Nat.zero_le _, hr.blk, ?_, hr.le, ?_, ?_⟩⟩, ?_⟩
  · rw [hll, e0, List.length_append, List.length_append, hti, hxl, List.length_take, List.length_drop, hsub]; omega
  · rw [hll]
  · rw [hll]; omega
  · simpa using hr.len
  · rw [hll, e0]; exact ht
  · intro k hk2
    rw [hll] at hk2
    by_cases hki : k < i
    · have hle : (k + 1) * R.sz ≤ i * R.sz := Nat.mul_le_mul_right _ hki
      rw [Nat.add_mul] at hle
      have h5 := hgo _ _ (hrd k (by omega))
      have e1 : (l.take i ++ [x] ++ l.drop i)[k]'(by rw [hll]; omega) = l[k]'(by omega) := by
        rw [List.getElem_append_left (by simp; omega), List.getElem_append_left (by simp; omega), List.getElem_take]
      rw [e1, List.append_assoc, List.drop_append_of_le_length (by omega), List.take_append_of_le_length (by rw [List.length_drop]; omega), List.drop_take, List.take_take, Nat.min_eq_left (by omega)]
      exact h5
    · by_cases hke : k = i
      · subst hke
        have e1 : (l.take k ++ [x] ++ l.drop k)[k]'(by rw [hll]; omega) = x := by
          rw [List.getElem_append_left (by simp; omega), List.getElem_append_right (by simp; omega)]
          simp
        rw [e1, List.append_assoc]
        have e2 : (cur.take (k * R.sz) ++ (xc ++ (cur.drop (k * R.sz)).take ((l.length - k) * R.sz))).drop (k * R.sz) = xc ++ (cur.drop (k * R.sz)).take ((l.length - k) * R.sz) := by
          exact List.drop_left' hti
        rw [e2, ← hxl, List.take_left]
        exact hx2
      · obtain ⟨j, rfl⟩ : ∃ j, k = i + 1 + j := ⟨k - i - 1, by omega⟩
        have h5 := hgo _ _ (hrd (i + j) (by omega))
        have e1 : (l.take i ++ [x] ++ l.drop i)[i + 1 + j]'(by rw [hll]; omega) = l[i + j]'(by omega) := by
          rw [List.getElem_append_right (by simp; omega), List.getElem_drop]
          congr 1; simp; omega
        have h6 : (cur.take (i * R.sz) ++ xc).length = i * R.sz + R.sz := by rw [List.length_append, hti, hxl]
        have e2 : (cur.take (i * R.sz) ++ xc ++ (cur.drop (i * R.sz)).take ((l.length - i) * R.sz)).drop ((i + 1 + j) * R.sz) = ((cur.drop (i * R.sz)).take ((l.length - i) * R.sz)).drop (j * R.sz) := by
          rw [show (i + 1 + j) * R.sz = (cur.take (i * R.sz) ++ xc).length + j * R.sz by rw [h6, Nat.add_mul, Nat.add_mul, Nat.one_mul]]
          rw [List.drop_append]
          have : (cur.take (i * R.sz) ++ xc).drop ((cur.take (i * R.sz) ++ xc).length + j * R.sz) = [] := List.drop_eq_nil_of_le (by omega)
          rw [this, List.nil_append]
          congr 1; omega
        have hle : (j + 1) * R.sz ≤ (l.length - i) * R.sz := Nat.mul_le_mul_right _ (by omega)
        rw [Nat.add_mul] at hle
        rw [e1, e2, List.drop_take, List.take_take, Nat.min_eq_left (by omega), List.drop_drop, ← Nat.add_mul]
        exact h5
/-- One more among them. -/
def ins1 {α : Type} (l : List α) (i : Int) (m : List α) : Option (List α) := if 0 ≤ i ∧ i ≤ l.length then some (l.take i.toNat ++ m ++ l.drop i.toNat) else none
theorem o_ins {α : Type} {l r m : List α} {i : Int} (h : ins1 l i m = some r) : ∃ a : Nat, i = a ∧ a ≤ l.length ∧ r = l.take a ++ m ++ l.drop a := by
  unfold ins1 at h
  by_cases hp : 0 ≤ i ∧ i ≤ l.length
  · rw [if_pos hp] at h; cases h; exact ⟨i.toNat, by omega, by omega, rfl⟩
  · rw [if_neg hp] at h; cases h
theorem row_cells {w : World} {gg cap sz : Nat} {E : TypeId} {cur : List Value} (hr : Raw w gg cap sz E cur) (o k : Nat) : ∀ j u, ((cur.drop o).take k)[j]? = some u → w.cell? ((⟨gg, o, none⟩ : Addr).add j) = some u := by
  intro j u hj
  rw [addr_add]
  rw [List.getElem?_take] at hj
  split at hj
  · rw [List.getElem?_drop] at hj; simp [World.cell?, hr.blk, hj]
  · cases hj
theorem OwnSl.srcO {α : Type} {R : Rep α} {E : TypeId} {w : World} {A : BS} {v : Value} {l : List α} (h : OwnSl R E w A v l) : Rd2 R w BE (fun b => A b ∨ ob v b) v l := by
  obtain ⟨xs, h1, h3⟩ := h
  rcases h1.2 with ⟨rfl, hn⟩ | ⟨g, cap, cur, rfl, e1, e2, e3, e4, e5, e6⟩
  · have : l = [] := List.eq_nil_of_length_eq_zero hn
    subst this
    exact Rd2.nil
  · refine ⟨some ⟨g, 0, none⟩, cap, rfl, e3, e4, (fun h => by cases h), fun i hi => ⟨g, 0, cur, E, (0, 0), rfl, fun h => h, e2, ?_⟩⟩
    have := h3 i hi
    rw [← e6, List.drop_take, List.take_take, Nat.min_eq_left ?_] at this
    · rw [Nat.zero_add]; exact this
    · have : (i + 1) * R.sz ≤ l.length * R.sz := Nat.mul_le_mul_right _ hi
      rw [Nat.add_mul] at this
      omega
section
variable {P : Program} {ops : Array Oper} {Q : Exit → Act → World → Prop} {n : Nat} {env : Nat → Value} {w : World} {rest : List Oper}
  {d : Option Nat} {ty : TypeId} {pos : String} {af : Array Edge} {v : Value} {T : TypeId} {x y : Operand}
theorem wl_appO {α : Type} {R : Rep α} {E : TypeId} {sz bytes : Nat} {A : BS} {u : Value} {l m : List α} (hT : ElemOf P T E sz bytes) (hs : R.sz = sz) (hv : OwnSl R E w A v l) (hu : Rd2 R w BE A u m) (hx : ev n env x = v) (hy : ev n env y = u)
    (hA : ∀ b, ob v b → A b) (hb : (l.length + m.length) * bytes ≤ 140737488355328) (hm : l.length + m.length ≤ 9223372036854775807)
    (k : ∀ w' v', OwnSl R E w' A v' (l ++ m) → Keep (ob v) w w' → (∀ b, ob v' b → b < w.heap.size → ob v b) → WL P ops Q rest n (updo env d v') w') :
    WL P ops Q (⟨d, .call { callee := .builtin .append, args := #[x, y], argTypes := #[T, T] }, ty, pos, af, none⟩ :: rest) n env w := by
  obtain ⟨v', w', h1, h2, h3, h4⟩ := run_app (d := d) (ty := ty) (pos := pos) (af := af) (g := none) hT hs hx hv hy hu hA hb hm
  exact wl_ok h1 (k w' v' h2 h3 h4)
end
theorem ins_av {α β : Type} {R : Rep α} {R' : Rep β} {E E' : TypeId} {w0 w : World} {M K : BS} {hp : Nat → Chunk} {i j : Nat} {v u : Value} {l : List α} {m : List β} (h : SH w0 M K w hp) (hij : i ≠ j) (hi : hp i = .own R E v l) (hj : hp j = .own R' E' u m) : ∀ b, ((M b ∨ rest hp i b) ∨ ob v b) → b < w.heap.size → (M b ∨ rest hp j b) ∨ ob u b := by
  rintro b ((hb | ⟨k, hk, hb⟩) | hb) _
  · exact .inl (.inl hb)
  · by_cases e : k = j
    · subst e; rw [hj] at hb; exact .inr hb
    · exact .inl (.inr ⟨k, e, hb⟩)
  · exact .inl (.inr ⟨i, hij, by rw [hi]; exact hb⟩)
end Go.LX

namespace Go.LX
open Go.RowKit
section
variable {P : Program} {ops : Array Oper}
variable {Q : Exit → Act → World → Prop} {n : Nat} {env : Nat → Value} {w w0 : World} {M K : BS} {hp : Nat → Chunk}
/-- Any order, with effects; ws: the world from which the worlds on the way have grown. -/
structure WHK (P : Program) (ops : Array Oper) (L : BS) (ws : World) (Q : Exit → Act → World → Prop) (fuel : Nat) (listed : Array Bool) (n : Nat) (env : Nat → Value) (w : World) : Prop where
  out : wpAnyH P .any ops (NoPanic Q) (Keep L ws) fuel listed (act n env) w
theorem wck_held {L : BS} {id : Nat} {l : List Oper} (hm : P.follows .mixedOrders = true) (h0 : SH w0 M K w hp)
    (h : ∀ w, SH w0 M K w hp → WHK P l.toArray L w Q l.length (Array.replicate l.length false) n env w) : WC P (Code.region id l.toArray true) Q n env w :=
  ⟨wp_region_noPanic (wp_region_held (S := Keep L w.drew) hm (h _ (h0.grow (Grow.drew w))).out)⟩
variable {d : Option Nat} {op : Op} {ty : TypeId} {pos : String} {af : Array Edge} {v : Value} {g : Option (Nat × Bool)} {i fuel : Nat} {listed : Array Bool}
theorem whk_first {L : BS} {ws : World} {o : Oper} (hS : Keep L ws w) (hi : ops[i]? = some o) (hs : Region.noSelect ops = true) (hf : Region.free .any ops listed i = true) (hr : (Region.ready .any ops listed).contains i = true)
    (hy : YieldsIf P ops (Keep L ws) o v (act n env)) (h : WHK P ops L ws Q fuel (listed.setIfInBounds i true) n (updo env o.dst v) w) : WHK P ops L ws Q (fuel + 1) listed n env w := by
  refine ⟨wpAnyH_take hi hs hf hr (fun _ _ _ h => h) hy hS ?_⟩
  rw [act_put]
  exact h.out
theorem whk_ok {L : BS} {ws : World} (i : Nat) (hS : Keep L ws w) (hi : ops[i]? = some ⟨d, op, ty, pos, af, g⟩) (hw : Region.wanted ⟨d, op, ty, pos, af, g⟩ (yielded ops (act n env).tmps) = true) (hs : Region.noSelect ops = true) (hf : Region.free .any ops listed i = true) (hr : (Region.ready .any ops listed).contains i = true)
    (he : ∀ wq, Keep L ws wq → (execOp (ev n env) ⟨d, op, ty, pos, af, g⟩).run P wq = .ok (.value v) wq) (h : WHK P ops L ws Q fuel (listed.setIfInBounds i true) n (updo env d v) w) : WHK P ops L ws Q (fuel + 1) listed n env w :=
  whk_first (o := ⟨d, op, ty, pos, af, g⟩) hS hi hs hf hr (.inl ⟨hw, fun wq hq => by rw [act_eval]; exact he wq hq⟩) h
theorem whk_skip {L : BS} {ws : World} (i : Nat) (hS : Keep L ws w) (hi : ops[i]? = some ⟨d, op, ty, pos, af, g⟩) (hw : Region.wanted ⟨d, op, ty, pos, af, g⟩ (yielded ops (act n env).tmps) = false) (hs : Region.noSelect ops = true) (hf : Region.free .any ops listed i = true) (hr : (Region.ready .any ops listed).contains i = true)
    (h : WHK P ops L ws Q fuel (listed.setIfInBounds i true) n (updo env d undef) w) : WHK P ops L ws Q (fuel + 1) listed n env w :=
  whk_first (o := ⟨d, op, ty, pos, af, g⟩) hS hi hs hf hr (.inr ⟨hw, rfl⟩) h
theorem whk_done {L : BS} {ws : World} (hr : Region.ready .any ops listed = []) (h : Q .normal (act n env) w) : WHK P ops L ws Q fuel listed n env w := ⟨wpAnyH_done hr (NoPanic.normal h) fuel⟩
/-- What follows an effect. -/
def afterK (P : Program) (ops : Array Oper) (L : BS) (ws : World) (Q : Exit → Act → World → Prop) (fuel : Nat) (listed : Array Bool) : Exit → Act → World → Prop :=
  selK (fun a' w' => Keep L ws w' ∧ wpAnyH P .any ops (NoPanic Q) (Keep L ws) fuel listed a' w') (NoPanic Q)
theorem whk_back {L : BS} {ws : World} (hg : Keep L ws w) (h : WHK P ops L ws Q fuel listed n env w) : afterK P ops L ws Q fuel listed .normal (act n env) w := ⟨hg, h.out⟩
theorem whk_eff {L : BS} {ws : World} (i : Nat) (hr : Region.ready .any ops listed = [i]) (hi : ops[i]? = some ⟨d, op, ty, pos, af, g⟩) (hw : Region.wanted ⟨d, op, ty, pos, af, g⟩ (yielded ops (act n env).tmps) = true)
    (h : WL P ops (afterK P ops L ws Q fuel (listed.setIfInBounds i true)) [⟨d, op, ty, pos, af, none⟩] n env w) : WHK P ops L ws Q (fuel + 1) listed n env w := by
  refine ⟨wpAnyH_all hr (by simp) (fun k hk => ?_)⟩
  obtain rfl : k = i := by simpa using hk
  exact op_of_wl hi hw h
theorem whk_eff2 {L : BS} {ws : World} {d' : Option Nat} {op' : Op} {ty' : TypeId} {pos' : String} {af' : Array Edge} {g' : Option (Nat × Bool)} (i j : Nat) (hr : Region.ready .any ops listed = [i, j]) (hi : ops[i]? = some ⟨d, op, ty, pos, af, g⟩) (hw : Region.wanted ⟨d, op, ty, pos, af, g⟩ (yielded ops (act n env).tmps) = true)
    (hj : ops[j]? = some ⟨d', op', ty', pos', af', g'⟩) (hw' : Region.wanted ⟨d', op', ty', pos', af', g'⟩ (yielded ops (act n env).tmps) = true)
    (h : WL P ops (afterK P ops L ws Q fuel (listed.setIfInBounds i true)) [⟨d, op, ty, pos, af, none⟩] n env w) (h' : WL P ops (afterK P ops L ws Q fuel (listed.setIfInBounds j true)) [⟨d', op', ty', pos', af', none⟩] n env w) : WHK P ops L ws Q (fuel + 1) listed n env w := by
  refine ⟨wpAnyH_all hr (by simp) (fun k hk => ?_)⟩
  rcases List.mem_cons.1 hk with rfl | hk
  · exact op_of_wl hi hw h
  · obtain rfl : k = j := by simpa using hk
    exact op_of_wl hj hw' h'
theorem whk_at {L : BS} {ws a : World} (e : a = ws) (h : WHK P ops L ws Q fuel listed n env w) : WHK P ops L a Q fuel listed n env w := e ▸ h
end
theorem SH.lose {α : Type} {R : Rep α} {E : TypeId} {v : Value} {l : List α} {w0 w w' : World} {M K : BS} {hp : Nat → Chunk} (h : SH w0 M K w hp) (i : Nat) (hi : hp i = .own R E v l) (hk : Keep (ob v) w w') : SH w0 M K w' (hupd hp i .no) :=
  h.step i hk (fun b hb _ => by rw [hi]; exact hb) (fun b hb => hb.elim) trivial
theorem Keep.freshK {a b c : World} {L N : BS} (h : Keep L a b) (k : Keep N b c) (hN : ∀ x, N x → a.heap.size ≤ x) : Keep L a c := h.step k (fun x hx hl => by have := hN x hx; omega)
theorem Keep.same {a b c : World} {L : BS} (h : Keep L a b) (k : Keep L b c) : Keep L a c := h.step k (fun _ hx _ => hx)
section
variable {P : Program} {ops : Array Oper} {Q : Exit → Act → World → Prop} {n : Nat} {env : Nat → Value} {w w' w0 : World} {M K : BS} {hp : Nat → Chunk} {rest : List Oper}
  {d : Option Nat} {op : Op} {ty : TypeId} {pos : String} {af : Array Edge} {v : Value} {g : Option (Nat × Bool)} {T : TypeId} {ρ : Operand → Value} {x y : Operand}
theorem w_stOG {α : Type} {R : Rep α} {E : TypeId} {sz : Nat} {l : List α} {k : Int} {a a' : α} {b off : Nat} {z u : Value} (h : SH w0 M K w hp) (i : Nat) (hi : hp i = .own R E u l) (hb : ob u b) (hs : R.sz = sz) (hk : l[k.toNat]? = some a) (hT : One P T z) (hx : ev n env x = .pointer (some ⟨b, k.toNat * sz + off, none⟩))
    (hy : ev n env y = v) (h1 : v.oneCell' = true) (hoff : Nat.blt off sz = true) (hset : ∀ cs, R.rd w (SH.A M hp) cs a → R.rd w (SH.A M hp) (cs.set off v) a')
    (kk : ∀ w', SH w0 M K w' (hupd hp i (.own R E u (l.set k.toNat a'))) → Keep (ob u) w w' → WL P ops Q rest n (updo env d undef) w') :
    WL P ops Q (⟨d, .store T x y, ty, pos, af, none⟩ :: rest) n env w := by
  subst hs
  rw [Nat.blt_eq] at hoff
  have hkl : k.toNat < l.length := by
    rcases Nat.lt_or_ge k.toNat l.length with h | h
    · exact h
    · rw [List.getElem?_eq_none h] at hk; cases hk
  have hla : l[k.toNat] = a := by rw [List.getElem?_eq_getElem hkl] at hk; exact Option.some.inj hk
  generalize k.toNat = k at *
  have hown : ∀ b, ob u b → SH.A M hp b := fun b hb => .inr ⟨i, by rw [hi]; exact hb⟩
  obtain ⟨xs, q1, q3⟩ := h.ownAt i hi
  rcases q1.2 with ⟨rfl, hn⟩ | ⟨g', cap, cur, rfl, e1, e2, e3, e4, e5, e6⟩
  · omega
  have hgb : b = g' := hb
  subst hgb
  have hle : (k + 1) * R.sz ≤ l.length * R.sz := Nat.mul_le_mul_right _ hkl
  have hcl : l.length * R.sz ≤ cap * R.sz := Nat.mul_le_mul_right _ e3
  rw [Nat.add_mul] at hle
  have hoc : k * R.sz + off < cur.size := by omega
  have hk2 := Keep.putb w b (.cells (cur.setIfInBounds (k * R.sz + off) v) E (0, 0))
  refine wl_skip (r_store1 hT hx e2 hoc hy h1) (kk _ (h.step i hk2 (fun x hx _ => by rw [hi]; exact hx) (fun x hx _ => by rw [hi]; exact hx) ⟨xs.set (k * R.sz + off) v, ⟨?_, .inr ⟨b, cap, cur.setIfInBounds (k * R.sz + off) v, ?_, e1, ?_, ?_, e4, ?_, ?_⟩⟩, ?_⟩) (hk2.weaken (fun x hx _ => hx)))
  · rw [List.length_set, List.length_set]; exact q1.1
  · rw [List.length_set]
  · rw [putb_blk (lt_of_blk e2)]
  · rw [List.length_set]; exact e3
  · simpa using e5
  · rw [List.length_set, Array.toList_setIfInBounds, List.take_set, e6]
  · intro i' hi'
    have hi2 : i' < l.length := by rwa [List.length_set] at hi'
    have hgo := fun cs a (h : R.rd w (SH.A M hp) cs a) => R.go (A' := fun x => (M x ∨ (SH.av hp i (.own R E (.slice (some ⟨b, 0, none⟩) l.length cap) (l.set k a'))) x) ∨ ob (.slice (some ⟨b, 0, none⟩) l.length cap) x) h hk2 (fun x hx _ => hown x hx) (fun x hx _ => by
      rcases hx with (hx | hx | hx) | hx
      · exact .inl hx
      · exact .inr (rest_all hx)
      · exact hown x hx
      · exact hown x hx)
    have hq := fun j (hj : j < l.length) => R.go (A' := SH.A M hp) (q3 j hj) (Keep.refl BE w) (fun _ h => h.elim) (fun x hx _ => .inl hx)
    by_cases hik : i' = k
    · subst hik
      rw [List.getElem_set_self, drop_set_take rfl]
      exact hgo _ _ (hset _ (hla ▸ hq i' hkl))
    · rw [List.getElem_set_ne (Ne.symm hik), drop_set_other]
      · exact hgo _ _ (hq i' hi2)
      · rcases Nat.lt_or_ge k i' with h5 | h5
        · left
          have : (k + 1) * R.sz ≤ i' * R.sz := Nat.mul_le_mul_right _ h5
          rw [Nat.add_mul] at this
          omega
        · right
          have : (i' + 1) * R.sz ≤ k * R.sz := Nat.mul_le_mul_right _ (by omega)
          rw [Nat.add_mul] at this
          omega
end
end Go.LX

namespace Go.LX
open Go.RowKit Go.Sort
section
variable {α β : Type} [Inhabited α] [Inhabited β]
theorem get_map {f : α → β} (hd : f default = default) (d : Array α) (i : Nat) : (d.map f)[i]! = f d[i]! := by
  rcases Nat.lt_or_ge i d.size with h | h
  · rw [getElem!_pos (d.map f) i (by simpa using h), getElem!_pos d i h]; simp
  · rw [getElem!_neg (d.map f) i (by simpa using h), getElem!_neg d i (by omega)]; exact hd.symm
theorem swp_map {f : α → β} (hd : f default = default) (d : Array α) (i j : Nat) : (swp d i j).map f = swp (d.map f) i j := by
  unfold swp
  rw [get_map hd, get_map hd]
  apply Array.ext_getElem?
  intro k
  simp only [Array.getElem?_map, Array.getElem?_setIfInBounds, Array.size_setIfInBounds, Array.size_map]
  split
  · split <;> simp
  · split
    · split <;> simp
    · rfl
theorem insInner_map {f : α → β} (hd : f default = default) (lt : β → β → Bool) (a : Nat) : ∀ (j : Nat) (d : Array α), (insInner (fun x y => lt (f x) (f y)) a j d).map f = insInner lt a j (d.map f)
  | 0, d => rfl
  | j + 1, d => by
    unfold insInner
    simp only [get_map hd]
    split
    · rw [insInner_map hd lt a j, swp_map hd]
    · rfl
theorem insOuter_map {f : α → β} (hd : f default = default) (lt : β → β → Bool) (a b : Nat) : ∀ (m i : Nat) (d : Array α), b - i = m → (insOuter (fun x y => lt (f x) (f y)) a b i d).map f = insOuter lt a b i (d.map f) := by
  intro m
  induction m with
  | zero =>
    intro i d h
    conv => lhs; rw [insOuter.eq_def]
    conv => rhs; rw [insOuter.eq_def]
    rw [if_neg (by omega), if_neg (by omega)]
  | succ m ih =>
    intro i d h
    rw [insOuter.eq_def]
    conv => rhs; rw [insOuter.eq_def]
    rw [if_pos (by omega), if_pos (by omega), ih (i + 1) _ (by omega), insInner_map hd]
theorem insertionSort_map {f : α → β} (hd : f default = default) (lt : β → β → Bool) (d : Array α) (a b : Nat) : (Sort.insertionSort (fun x y => lt (f x) (f y)) d a b).map f = Sort.insertionSort lt (d.map f) a b := insOuter_map hd lt a b _ _ d rfl
theorem swp_all {p : α → Prop} {d : Array α} {i j : Nat} (hi : i < d.size) (hj : j < d.size) (h : ∀ k, k < d.size → p d[k]!) : ∀ k, k < (swp d i j).size → p (swp d i j)[k]! := by
  intro k hk
  rw [size_swp] at hk
  rw [swp_get d hi hj]
  split
  · exact h i hi
  · split
    · exact h j hj
    · exact h k hk
theorem insInner_all {p : α → Prop} (lt : α → α → Bool) (a : Nat) : ∀ (j : Nat) (d : Array α), j < d.size → (∀ k, k < d.size → p d[k]!) → (insInner lt a j d).size = d.size ∧ ∀ k, k < (insInner lt a j d).size → p (insInner lt a j d)[k]!
  | 0, d, _, h => ⟨rfl, h⟩
  | j + 1, d, hj, h => by
    unfold insInner
    split
    · have := insInner_all lt a j (swp d (j + 1) j) (by rw [size_swp]; omega) (swp_all hj (by omega) h)
      rw [size_swp] at this
      exact this
    · exact ⟨rfl, h⟩
theorem insOuter_all {p : α → Prop} (lt : α → α → Bool) (a b : Nat) : ∀ (m i : Nat) (d : Array α), b - i = m → b ≤ d.size → (∀ k, k < d.size → p d[k]!) → (insOuter lt a b i d).size = d.size ∧ ∀ k, k < (insOuter lt a b i d).size → p (insOuter lt a b i d)[k]! := by
  intro m
  induction m with
  | zero =>
    intro i d h hb hp
    rw [insOuter.eq_def, if_neg (by omega)]
    exact ⟨rfl, hp⟩
  | succ m ih =>
    intro i d h hb hp
    rw [insOuter.eq_def, if_pos (by omega)]
    obtain ⟨h1, h2⟩ := insInner_all (p := p) lt a i d (by omega) hp
    obtain ⟨h3, h4⟩ := ih (i + 1) (insInner lt a i d) (by omega) (by omega) h2
    exact ⟨h3.trans h1, h4⟩
end
theorem Keep.mapBlock (w : World) (b : Nat) (f : Array Value → Array Value) : Keep (fun x => x = b) w (Sort.mapBlock w b f) :=
  ⟨rfl, rfl, rfl, by simp [Sort.mapBlock], fun k hk _ => by
    have : b ≠ k := fun e => hk e.symm
    simp [Sort.mapBlock, Array.getElem?_modify, this]⟩
theorem Grow.ahead (w : World) (n : Nat) : Grow w (Sort.ahead w n) := ⟨rfl, rfl, rfl, Nat.le_refl _, fun _ _ _ => rfl⟩
theorem Grow.grow (w : World) (os : Array Obj) : Grow w (Sort.grow w os) :=
  ⟨rfl, rfl, rfl, by simp [Sort.grow], fun k _ hk => by simp [Sort.grow, Array.getElem?_append_left hk]⟩
section
variable {α β : Type} [Inhabited α] {R : Rep β} {E : TypeId} {w : World} {A : BS} {v : Value} {l : List β} {enc : α → List Value} {f : α → β}
/-- An own slice as a row of encoded elements. -/
theorem own_holds (H : ∀ w A cs x, R.rd w A cs x → ∃ p, enc p = cs ∧ f p = x) (ha : OwnSl R E w A v l) (hl : 0 < l.length) :
    ∃ gg cap cur, ∃ d : Array α, v = .slice (some ⟨gg, 0, none⟩) l.length cap ∧ d.size = l.length ∧ d.toList.map f = l ∧ Sort.HoldsK enc R.sz w gg 0 d ∧ Raw w gg cap R.sz E cur ∧ l.length ≤ cap ∧ (∀ k, k < d.size → R.rd w (fun b => A b ∨ b = gg) (enc d[k]!) (f d[k]!)) := by
  obtain ⟨gg, cap, cur, rfl, hraw, hcap, hrd⟩ := own_raw ha hl
  have hch : ∀ i : Fin l.length, ∃ p, enc p = (cur.drop (i.1 * R.sz)).take R.sz ∧ f p = l[i.1] := fun i => H _ _ _ _ (hrd i.1 i.2)
  have hsz : (Array.ofFn (fun i : Fin l.length => (hch i).choose)).size = l.length := by simp
  have hget : ∀ k (hk : k < l.length), (Array.ofFn (fun i : Fin l.length => (hch i).choose))[k]! = (hch ⟨k, hk⟩).choose := by
    intro k hk
    rw [getElem!_pos _ k (by simpa using hk)]; simp
  refine ⟨gg, cap, cur, Array.ofFn (fun i : Fin l.length => (hch i).choose), rfl, hsz, ?_, ?_, hraw, hcap, ?_⟩
  · apply List.ext_getElem
    · simp
    · intro k h1 h2
      simp only [List.getElem_map, Array.getElem_toList, Array.getElem_ofFn]
      exact (hch ⟨k, h2⟩).choose_spec.2
  · intro t ht
    rw [size_flatK, hsz] at ht
    have hp := R.pos
    have hq : t / R.sz < l.length := Nat.div_lt_of_lt_mul (by rw [Nat.mul_comm]; exact ht)
    have hlt : t % R.sz < R.sz := Nat.mod_lt _ hp
    have e : t / R.sz * R.sz + t % R.sz = t := by rw [Nat.mul_comm]; exact Nat.div_add_mod _ _
    have hlen := hraw.len
    have hle : (t / R.sz + 1) * R.sz ≤ cap * R.sz := Nat.mul_le_mul_right _ (by omega)
    rw [Nat.add_mul] at hle
    constructor
    · rw [get_flatK _ _ _ _ (by rw [hsz]; exact ht), hget _ hq, (hch ⟨t / R.sz, hq⟩).choose_spec.1]
      have h1 : ((cur.drop (t / R.sz * R.sz)).take R.sz)[t % R.sz]? = cur[t]? := by rw [List.getElem?_take, if_pos hlt, List.getElem?_drop, e]
      have h2 : t < cur.length := by omega
      rw [getElem!_def, h1, List.getElem?_eq_getElem h2]
      simp [World.cell?, hraw.blk, h2]
    · simp [World.frozen?, hraw.blk]
  · intro k hk
    rw [hsz] at hk
    rw [hget k hk, (hch ⟨k, hk⟩).choose_spec.1, (hch ⟨k, hk⟩).choose_spec.2]
    exact hrd k hk
/-- .. and back, once it is sorted. -/
theorem holds_own {gg cap n : Nat} {cur : List Value} {d d' : Array α} {os : Array Obj} (hraw : Raw w gg cap R.sz E cur) (hk : ∀ x, (enc x).length = R.sz) (hs : d'.size = d.size) (hcap : d.size ≤ cap) (hh : Sort.HoldsK enc R.sz w gg 0 d)
    (hrd : ∀ k, k < d'.size → R.rd w (fun b => A b ∨ b = gg) (enc d'[k]!) (f d'[k]!)) :
    OwnSl R E (Go.Proofs.sortWorldK enc R.sz w gg 0 n d' os) A (.slice (some ⟨gg, 0, none⟩) d.size cap) (d'.toList.map f) ∧ Keep (fun x => x = gg) w (Go.Proofs.sortWorldK enc R.sz w gg 0 n d' os) := by
  have hlen := hraw.len
  have hc : d.size * R.sz ≤ cap * R.sz := Nat.mul_le_mul_right _ hcap
  have hK1 : Keep (fun x => x = gg) w (Sort.putRowK enc R.sz (Sort.ahead w n) gg 0 d') := (Grow.ahead w n).keep.step (Keep.mapBlock _ _ _) (fun _ h _ => h)
  have hK : Keep (fun x => x = gg) w (Go.Proofs.sortWorldK enc R.sz w gg 0 n d' os) := hK1.grow (Grow.grow _ _)
  refine ⟨⟨(flatK enc R.sz d').toList, ⟨by simp, .inr ⟨gg, cap, Sort.putCells id 0 (flatK enc R.sz d') cur.toArray, by simp [hs], Nat.zero_le _, ?_, by simp [hs, hcap], hraw.le, by simp [Sort.putCells, hlen], ?_⟩⟩, ?_⟩, hK⟩
  · have h1 : (Sort.putRowK enc R.sz (Sort.ahead w n) gg 0 d').heap[gg]? = some (.cells (Sort.putCells id 0 (flatK enc R.sz d') cur.toArray) E (0, 0)) := by
      unfold Sort.putRowK Sort.putRow Sort.mapBlock
      simp only [Array.getElem?_modify, if_true]
      rw [show (Sort.ahead w n).heap[gg]? = some (.cells cur.toArray E (0, 0)) from hraw.blk]
      rfl
    exact (Grow.grow _ os).blk h1
  · apply List.ext_getElem?
    intro t
    rw [List.getElem?_take]
    have hl2 : (d'.toList.map f).length = d'.size := by simp
    rw [hl2]
    split
    · next ht =>
      have h1 : t < cur.length := by rw [hlen]; rw [hs] at ht; omega
      have h2 : t < (flatK enc R.sz d').size := by rw [size_flatK]; exact ht
      simp [Sort.putCells, h1, ht]
    · next ht =>
      rw [List.getElem?_eq_none]
      simp only [Array.length_toList, size_flatK]
      omega
  · intro i hi
    have hi2 : i < d'.size := by simpa using hi
    have hp := R.pos
    have hcells : ((flatK enc R.sz d').toList.drop (i * R.sz)).take R.sz = enc d'[i]! := by
      apply List.ext_getElem?
      intro t
      rw [List.getElem?_take]
      split
      · next ht =>
        have hle : (i + 1) * R.sz ≤ d'.size * R.sz := Nat.mul_le_mul_right _ hi2
        rw [Nat.add_mul] at hle
        have e1 : (i * R.sz + t) / R.sz = i := (Sort.blk_iff R.sz i _ hp).1 ⟨by omega, by omega⟩
        have e2 : (i * R.sz + t) % R.sz = t := by rw [Nat.mod_eq_sub_div_mul, e1]; omega
        have h3 := get_flatK enc R.sz d' (i * R.sz + t) (by omega)
        rw [e1, e2] at h3
        rw [List.getElem?_drop, Array.getElem?_toList, Array.getElem?_eq_getElem (by rw [size_flatK]; omega), List.getElem?_eq_getElem (by rw [hk]; exact ht)]
        rw [getElem!_pos (flatK enc R.sz d') _ (by rw [size_flatK]; omega), getElem!_pos (enc d'[i]!) t (by rw [hk]; exact ht)] at h3
        rw [h3]
      · next ht => rw [List.getElem?_eq_none (by rw [hk]; omega)]
    have h5 := hrd i hi2
    rw [hcells]
    have e3 : (d'.toList.map f)[i] = f d'[i]! := by
      simp [getElem!_pos d' i hi2]
    rw [e3]
    exact R.go h5 hK (fun x hx _ => .inr hx) (fun b hb _ => hb.imp id (fun hb => by simpa [ob] using hb))
end
/-- What the library's sort makes of few elements. -/
def sortF {α : Type} [Inhabited α] (lt : α → α → Bool) (l : List α) : List α := (Sort.insertionSort lt l.toArray 0 l.length).toList
structure One1 where
  v : Value
  one : v.oneCell' = true
instance : Inhabited One1 := ⟨⟨.bool false, rfl⟩⟩
theorem sort_own {α β : Type} [Inhabited α] [Inhabited β] {R : Rep β} {E : TypeId} {w : World} {A : BS} {l : List β} {enc : α → List Value} {f : α → β} {gg cap n : Nat} {cur : List Value} {d : Array α} {os : Array Obj} {lt : β → β → Bool} {lt' : α → α → Bool} (hf : f default = default) (hlt : lt' = fun x y => lt (f x) (f y)) (hraw : Raw w gg cap R.sz E cur) (hk : ∀ x, (enc x).length = R.sz) (hs : d.size = l.length) (hcap : l.length ≤ cap) (hh : Sort.HoldsK enc R.sz w gg 0 d) (hl : d.toList.map f = l)
    (hrd : ∀ k, k < d.size → R.rd w (fun b => A b ∨ b = gg) (enc d[k]!) (f d[k]!)) :
    OwnSl R E (Go.Proofs.sortWorldK enc R.sz w gg 0 n (Sort.insertionSort lt' d 0 d.size) os) A (.slice (some ⟨gg, 0, none⟩) l.length cap) (sortF lt l) ∧ Keep (fun x => x = gg) w (Go.Proofs.sortWorldK enc R.sz w gg 0 n (Sort.insertionSort lt' d 0 d.size) os) := by
  subst hlt
  obtain ⟨h1, h2⟩ := insOuter_all (p := fun x => R.rd w (fun b => A b ∨ b = gg) (enc x) (f x)) (fun x y => lt (f x) (f y)) 0 d.size _ 1 d rfl (Nat.le_refl _) hrd
  have h3 := holds_own (f := f) (n := n) (os := os) (E := E) (d' := Sort.insertionSort (fun x y => lt (f x) (f y)) d 0 d.size) hraw hk h1 (by omega) hh h2
  have e : (Sort.insertionSort (fun x y => lt (f x) (f y)) d 0 d.size).toList.map f = sortF lt l := by
    rw [← Array.toList_map, insertionSort_map hf]
    unfold sortF
    have : d.map f = l.toArray := by apply Array.ext'; rw [Array.toList_map]; simpa using hl
    rw [this, hs]
  rw [e, hs] at h3
  rw [hs]
  exact h3
end Go.LX

namespace Go.LX
open Go.RowKit
/-- A pointer to one datum, or none. -/
def rPtr {α : Type} (R : Rep α) : Rep (Option α) where
  sz := 1
  rd w A cs x := ∃ v, cs = [v] ∧ ((v = .pointer none ∧ x = none) ∨ ∃ b cells E fz a, v = .pointer (some ⟨b, 0, none⟩) ∧ ¬ A b ∧ w.heap[b]? = some (.cells cells E fz) ∧ R.rd w A (cells.toList.take R.sz) a ∧ x = some a)
  len := by rintro w A cs x ⟨v, rfl, _⟩; rfl
  one := by
    rintro w A cs x ⟨v, rfl, h⟩ u hu
    simp at hu; subst hu
    rcases h with ⟨rfl, _⟩ | ⟨b, cells, E, fz, a, rfl, _⟩ <;> rfl
  pos := by decide
  go := by
    rintro w A cs x w' A' K ⟨v, rfl, h⟩ hk hK hA
    refine ⟨v, rfl, ?_⟩
    rcases h with h | ⟨b, cells, E, fz, a, h1, h2, h3, h4, h5⟩
    · exact .inl h
    · exact .inr ⟨b, cells, E, fz, a, h1, fun hb => h2 (hA b hb (lt_of_blk h3)), hk.blk h3 (fun hb => h2 (hK b hb (lt_of_blk h3))), R.go h4 hk hK hA, h5⟩
section
variable {w0 w : World} {M K : BS} {hp : Nat → Chunk} {α : Type} {R : Rep α}
theorem SH.rpAt {v : Value} {x : α} (h : SH w0 M K w hp) (i : Nat) (hi : hp i = .rp R v x) : R.rd w (SH.A M hp) [v] x := by
  have := h.ok i; rw [hi] at this; exact this
theorem SH.dropC (h : SH w0 M K w hp) (i : Nat) : SH w0 M K w (hupd hp i .no) := h.step i (Keep.refl BE w) (fun _ h => h.elim) (fun _ h => h.elim) trivial
theorem SH.nilRp (h : SH w0 M K w hp) (i : Nat) : SH w0 M K w (hupd hp i (.rp (rPtr R) (.pointer none) none)) := h.know i (fun _ h => h) ⟨_, rfl, .inl ⟨rfl, rfl⟩⟩
theorem SH.copyRp {v : Value} {x : α} (h : SH w0 M K w hp) (j i : Nat) (hj : hp j = .rp R v x) : SH w0 M K w (hupd hp i (.rp R v x)) := h.know i (fun _ h => h) (h.rpAt j hj)
/-- One's own block, written on no more, told as a pointer. -/
theorem SH.boxRp {b : Nat} {cs : List Value} {x : α} (h : SH w0 M K w hp) (j i : Nat) (hj : hp j = .blk b cs) (hl : R.sz = cs.length) (hr : R.rd w (SH.A M hp) cs x) : SH w0 M K w (hupd (hupd hp j .no) i (.rp (rPtr R) (.pointer (some ⟨b, 0, none⟩)) (some x))) := by
  obtain ⟨E, hb⟩ := h.blkAt j hj
  have h2 : SH w0 M K w (hupd hp j .no) := h.step j (Keep.refl BE w) (fun _ h => h.elim) (fun b hb => hb.elim) trivial
  have hb0 : (hp j).own' b := by rw [hj]; rfl
  refine h2.know i (fun _ h => h) ⟨_, rfl, .inr ⟨b, _, _, _, x, rfl, ?_, hb, ?_, rfl⟩⟩
  · rintro (hm | ⟨k, hk⟩)
    · exact h.apM j b hb0 hm
    · by_cases e : k = j
      · subst e; rw [hupd_same] at hk; exact hk
      · rw [hupd_ne e] at hk; exact h.apart k j e b hk hb0
  · rw [hl]
    have : (cs.toArray.toList.take cs.length) = cs := by simp
    rw [this]
    refine R.go hr (Keep.refl BE w) (fun _ h => h.elim) (fun b hb _ => hb.imp id (fun ⟨k, hk⟩ => ?_))
    by_cases e : k = j
    · subst e; rw [hupd_same] at hk; exact hk.elim
    · rw [hupd_ne e] at hk; exact ⟨k, hk⟩
/-- There is one. -/
theorem SH.openRp {v : Value} {o : Option α} {x : α} (h : SH w0 M K w hp) (i j : Nat) (hi : hp i = .rp (rPtr R) v o) (hx : o = some x) :
    ∃ b cs, v = .pointer (some ⟨b, 0, none⟩) ∧ SH w0 M K w (hupd hp j (.pt b 0 cs)) ∧ R.rd w (SH.A M hp) cs x := by
  obtain ⟨u, e, h1 | ⟨b, cells, E, fz, a, h1, h2, h3, h4, h5⟩⟩ := h.rpAt i hi
  · rw [hx] at h1; cases h1.2
  · cases e
    rw [hx] at h5
    cases h5
    refine ⟨b, _, h1, h.pt j (fun hb => h2 (.inr hb)) ⟨cells, E, fz, h3, ?_⟩, h4⟩
    rw [List.drop_zero, R.len h4]
theorem rp_nil {A : BS} {v : Value} {o : Option α} (h : (rPtr R).rd w A [v] o) : v = .pointer none ∧ o = none ∨ ∃ a x, v = .pointer (some a) ∧ o = some x := by
  obtain ⟨u, e, h1 | ⟨b, cells, E, fz, a, h1, h2, h3, h4, h5⟩⟩ := h
  · cases e; exact .inl h1
  · cases e; exact .inr ⟨_, _, h1, h5⟩
variable {P : Program} {T T2 ty : TypeId} {ρ : Operand → Value} {d : Option Nat} {pos : String} {af : Array Edge} {g : Option (Nat × Bool)} {x y : Operand} {v : Value} {A : BS} {o : Option α}
/-- A pointer's type. -/
def PtrTo (P : Program) (T : TypeId) : Prop := ∃ E, P.underlying T = some (.pointer E)
theorem PtrTo.p (hT : PtrTo P T) : P.underlying T = some (.pointer (P.pointee T)) := by
  obtain ⟨E, hT⟩ := hT
  simp [Program.pointee, hT]
theorem r_eqptr (hT : PtrTo P T) (hx : ρ x = v) (hr : (rPtr R).rd w A [v] o) (hy : ρ y = .pointer none) : (execOp ρ ⟨d, .binOp .eql T x y T2, ty, pos, af, g⟩).run P w = .ok (.value (.bool o.isNone)) w := by
  rcases rp_nil hr with ⟨rfl, rfl⟩ | ⟨a, z, rfl, rfl⟩
  · simp [execOp, hx, hy, eqGuard, run_eql_pointer_nil w T _ hT.p]
  · simp [execOp, hx, hy, eqGuard, run_eql_pointer_nil w T _ hT.p]
theorem r_neptr (hT : PtrTo P T) (hx : ρ x = v) (hr : (rPtr R).rd w A [v] o) (hy : ρ y = .pointer none) : (execOp ρ ⟨d, .binOp .neq T x y T2, ty, pos, af, g⟩).run P w = .ok (.value (.bool o.isSome)) w := by
  rcases rp_nil hr with ⟨rfl, rfl⟩ | ⟨a, z, rfl, rfl⟩
  · simp [execOp, hx, hy, eqGuard, run_neq_pointer_nil w T _ hT.p]
  · simp [execOp, hx, hy, eqGuard, run_neq_pointer_nil w T _ hT.p]
theorem r_nilCheckP {a : Addr} (hx : ρ x = v) (hv : v = .pointer (some a)) : (execOp ρ ⟨d, .nilCheck x, ty, pos, af, g⟩).run P w = .ok (.value (.pointer (some a))) w := r_nilCheck (hx.trans hv)
end
end Go.LX

namespace Go.LX
open Go.RowKit
/-- Pieces that may be handed to a callee and back. -/
def Chunk.firm : Chunk → Prop
  | .sr .. => False
  | .pt .. => False
  | .two a b => a.firm ∧ b.firm
  | _ => True
theorem Chunk.re {c : Chunk} {w : World} {M O M' O' : BS} (hf : c.firm) (h : c.holds w M O) (hu : ∀ b, M' b ∨ O' b → b < w.heap.size → M b ∨ O b) : c.holds w M' O' := by
  induction c with
  | no => trivial
  | rd R v l => exact Rd2.sub h hu hu
  | sr R v l => exact hf.elim
  | pt b o cs => exact hf.elim
  | blk b cs => exact h
  | own R E v l => exact OwnSl.go h (Keep.refl BE w) (fun _ h => h.elim) (fun _ h => h.elim) (fun b hb hl => .inl (hu b hb hl))
  | rp R v x => exact R.go h (Keep.refl BE w) (fun _ h => h.elim) hu
  | two a b iha ihb => exact ⟨iha hf.1 h.1, ihb hf.2 h.2.1, h.2.2⟩
  | pce S => exact S.go h (Keep.refl BE w) (fun _ h => h.elim) (fun _ h => h.elim) (fun b hb hl => .inl (hu b hb hl))
  | mp b ents => exact h
section
variable {w0 w w' : World} {M K : BS} {hp : Nat → Chunk}
theorem SH.pair (h : SH w0 M K w hp) (i j : Nat) (hij : i ≠ j) : SH w0 M K w (hupd (hupd hp j .no) i (.two (hp i) (hp j))) := by
  have key : ∀ x b, (hupd (hupd hp j .no) i (.two (hp i) (hp j)) x).own' b → (x = i ∧ ((hp i).own' b ∨ (hp j).own' b)) ∨ (x ≠ i ∧ x ≠ j ∧ (hp x).own' b) := by
    intro x b hb
    by_cases e : x = i
    · subst e; rw [hupd_same] at hb; exact .inl ⟨rfl, hb⟩
    · rw [hupd_ne e] at hb
      by_cases e2 : x = j
      · subst e2; rw [hupd_same] at hb; exact hb.elim
      · rw [hupd_ne e2] at hb; exact .inr ⟨e, e2, hb⟩
  have hall : ∀ b, allOwn (hupd (hupd hp j .no) i (.two (hp i) (hp j))) b → allOwn hp b := by
    rintro b ⟨x, hx⟩
    rcases key x b hx with ⟨_, h1 | h1⟩ | ⟨_, _, h1⟩
    · exact ⟨i, h1⟩
    · exact ⟨j, h1⟩
    · exact ⟨x, h1⟩
  refine ⟨h.keep, h.ltM, fun x b hb => ?_, fun x => ?_, fun x y hxy b hx hy => ?_, fun x b hb => ?_⟩
  · rcases key x b hb with ⟨_, h1 | h1⟩ | ⟨_, _, h1⟩
    · exact h.apM i b h1
    · exact h.apM j b h1
    · exact h.apM x b h1
  · by_cases e : x = i
    · subst e
      rw [hupd_same]
      exact ⟨Chunk.sub (h.ok x) (fun b hb _ => hall b hb), Chunk.sub (h.ok j) (fun b hb _ => hall b hb), fun b hb => h.apart x j hij b hb⟩
    · rw [hupd_ne e]
      by_cases e2 : x = j
      · subst e2; rw [hupd_same]; trivial
      · rw [hupd_ne e2]; exact Chunk.sub (h.ok x) (fun b hb _ => hall b hb)
  · rcases key x b hx with ⟨e1, h1⟩ | ⟨e1, e1', h1⟩ <;> rcases key y b hy with ⟨e2, h2⟩ | ⟨e2, e2', h2⟩
    · exact hxy (e1.trans e2.symm)
    · rcases h1 with h1 | h1
      · exact h.apart i y (fun e => e2 e.symm) b h1 h2
      · exact h.apart j y (fun e => e2' e.symm) b h1 h2
    · rcases h2 with h2 | h2
      · exact h.apart x i e1 b h1 h2
      · exact h.apart x j e1' b h1 h2
    · exact h.apart x y hxy b h1 h2
  · rcases key x b hb with ⟨_, h1 | h1⟩ | ⟨_, _, h1⟩
    · exact h.old i b h1
    · exact h.old j b h1
    · exact h.old x b h1
theorem SH.unpair {a c : Chunk} (h : SH w0 M K w hp) (i j : Nat) (hij : i ≠ j) (hi : hp i = .two a c) (hj : hp j = .no) : SH w0 M K w (hupd (hupd hp i a) j c) := by
  have key : ∀ x b, (hupd (hupd hp i a) j c x).own' b → (x = i ∧ a.own' b) ∨ (x = j ∧ c.own' b) ∨ (x ≠ i ∧ x ≠ j ∧ (hp x).own' b) := by
    intro x b hb
    by_cases e : x = j
    · subst e; rw [hupd_same] at hb; exact .inr (.inl ⟨rfl, hb⟩)
    · rw [hupd_ne e] at hb
      by_cases e2 : x = i
      · subst e2; rw [hupd_same] at hb; exact .inl ⟨rfl, hb⟩
      · rw [hupd_ne e2] at hb; exact .inr (.inr ⟨e2, e, hb⟩)
  have hA : ∀ b, a.own' b → (hp i).own' b := fun b hb => by rw [hi]; exact .inl hb
  have hC : ∀ b, c.own' b → (hp i).own' b := fun b hb => by rw [hi]; exact .inr hb
  have hall : ∀ b, allOwn (hupd (hupd hp i a) j c) b → allOwn hp b := by
    rintro b ⟨x, hx⟩
    rcases key x b hx with ⟨_, h1⟩ | ⟨_, h1⟩ | ⟨_, _, h1⟩
    · exact ⟨i, hA b h1⟩
    · exact ⟨i, hC b h1⟩
    · exact ⟨x, h1⟩
  have hok := h.ok i
  rw [hi] at hok
  refine ⟨h.keep, h.ltM, fun x b hb => ?_, fun x => ?_, fun x y hxy b hx hy => ?_, fun x b hb => ?_⟩
  · rcases key x b hb with ⟨_, h1⟩ | ⟨_, h1⟩ | ⟨_, _, h1⟩
    · exact h.apM i b (hA b h1)
    · exact h.apM i b (hC b h1)
    · exact h.apM x b h1
  · by_cases e : x = j
    · subst e; rw [hupd_same]; exact Chunk.sub hok.2.1 (fun b hb _ => hall b hb)
    · rw [hupd_ne e]
      by_cases e2 : x = i
      · subst e2; rw [hupd_same]; exact Chunk.sub hok.1 (fun b hb _ => hall b hb)
      · rw [hupd_ne e2]; exact Chunk.sub (h.ok x) (fun b hb _ => hall b hb)
  · rcases key x b hx with ⟨e1, h1⟩ | ⟨e1, h1⟩ | ⟨e1, e1', h1⟩ <;> rcases key y b hy with ⟨e2, h2⟩ | ⟨e2, h2⟩ | ⟨e2, e2', h2⟩
    · exact hxy (e1.trans e2.symm)
    · exact hok.2.2 b h1 h2
    · exact h.apart i y (fun e => e2 e.symm) b (hA b h1) h2
    · exact hok.2.2 b h2 h1
    · exact hxy (e1.trans e2.symm)
    · exact h.apart i y (fun e => e2 e.symm) b (hC b h1) h2
    · exact h.apart x i e1 b h1 (hA b h2)
    · exact h.apart x i e1 b h1 (hC b h2)
    · exact h.apart x y hxy b h1 h2
  · rcases key x b hb with ⟨_, h1⟩ | ⟨_, h1⟩ | ⟨_, _, h1⟩
    · exact h.old i b (hA b h1)
    · exact h.old i b (hC b h1)
    · exact h.old x b h1
/-- A piece, lent whole. -/
theorem SH.lendC (h : SH w0 M K w hp) (i : Nat) (hf : (hp i).firm) : (hp i).holds w (fun b => M b ∨ rest hp i b) (hp i).own' ∧ (∀ b, (hp i).own' b → ¬ (M b ∨ rest hp i b)) ∧ (∀ b, (M b ∨ rest hp i b) → b < w.heap.size) := by
  refine ⟨Chunk.re hf (h.ok i) (fun b hb _ => ?_), fun b hb hm => ?_, fun b hb => ?_⟩
  · rcases hb with (hb | hb) | hb
    · exact .inl hb
    · exact .inr (rest_all hb)
    · exact .inr ⟨i, hb⟩
  · rcases hm with hm | ⟨j, hj, hm⟩
    · exact h.apM i b hb hm
    · exact h.apart j i hj b hm hb
  · rcases hb with hb | ⟨j, _, hb⟩
    · exact Nat.lt_of_lt_of_le (h.ltM b hb) h.keep.size
    · exact Chunk.lt (h.ok j) b hb
theorem SH.givenC {C : Chunk} (h : SH w0 M K w hp) (i : Nat) (hf : C.firm) (hC : C.holds w' (fun b => M b ∨ rest hp i b) C.own') (hk : Keep (hp i).own' w w') (hn : ∀ b, C.own' b → b < w.heap.size → (hp i).own' b) : SH w0 M K w' (hupd hp i C) :=
  h.step i hk (fun _ hb _ => hb) hn (Chunk.re hf hC (fun b hb _ => by
    rcases hb with hb | hb | hb
    · exact .inl (.inl hb)
    · exact .inl (.inr hb)
    · exact .inr hb))
theorem SH.init1 {C : Chunk} (hM : ∀ b, M b → b < w.heap.size) (hC : C.holds w M C.own') (hap : ∀ b, C.own' b → ¬ M b) : SH w M C.own' w (hupd hno 1 C) := by
  have hall : ∀ b, allOwn (hupd hno 1 C) b → C.own' b := by
    rintro b ⟨j, hj⟩
    by_cases e : j = 1
    · subst e; rw [hupd_same] at hj; exact hj
    · rw [hupd_ne e] at hj; exact hj.elim
  refine ⟨Keep.refl _ _, hM, fun i b hb => hap b (hall b ⟨i, hb⟩), fun i => ?_, fun i j hij b hb hb2 => ?_, fun i b hb _ => hall b ⟨i, hb⟩⟩
  · by_cases e : i = 1
    · subst e; rw [hupd_same]; exact Chunk.sub hC (fun b hb _ => hall b hb)
    · rw [hupd_ne e]; trivial
  · by_cases e : i = 1
    · have e2 : j ≠ 1 := fun h => hij (e.trans h.symm)
      rw [hupd_ne e2] at hb2; exact hb2.elim
    · rw [hupd_ne e] at hb; exact hb.elim
theorem SH.outC {C : Chunk} (h : SH w0 M K w hp) (i : Nat) (hi : hp i = C) (hf : C.firm) : C.holds w M C.own' ∧ Keep K w0 w ∧ (∀ b, C.own' b → b < w0.heap.size → K b) := by
  subst hi
  exact ⟨Chunk.re hf (h.ok i) (fun b hb _ => hb.imp id (fun hb => ⟨i, hb⟩)), h.keep, h.old i⟩
end
end Go.LX

namespace Go.LX
structure Val where
  kind : Int
  n : Int
deriving DecidableEq
def rVal : Rep Val where
  sz := 2
  rd w A cs x := cs = [.int .i64 x.kind, .int .i64 x.n]
  len := by rintro w A cs x rfl; rfl
  one := by rintro w A cs x rfl u hu; simp only [List.mem_cons, List.not_mem_nil, or_false] at hu; rcases hu with rfl | rfl <;> first | rfl
  pos := by decide
  go := fun h _ _ _ => h
structure Tok where
  kind : Int
  n : Int
deriving DecidableEq
def rTok : Rep Tok where
  sz := 2
  rd w A cs x := cs = [.int .i64 x.kind, .int .i64 x.n]
  len := by rintro w A cs x rfl; rfl
  one := by rintro w A cs x rfl u hu; simp only [List.mem_cons, List.not_mem_nil, or_false] at hu; rcases hu with rfl | rfl <;> first | rfl
  pos := by decide
  go := fun h _ _ _ => h
structure Mail where
  from_ : Int
  to_ : Int
  co : Int
  epoch : Int
  taken : Bool
  image : List Int
deriving DecidableEq
def rMail : Rep Mail where
  sz := 6
  rd w A cs x := ∃ vimage, cs = [.int .i64 x.from_, .int .i64 x.to_, .int .i64 x.co, .int .i64 x.epoch, .bool x.taken, vimage] ∧ RdSl rInt w A vimage x.image
  len := by rintro w A cs x ⟨vimage, rfl, h0⟩; rfl
  one := by rintro w A cs x ⟨vimage, rfl, h0⟩ u hu; simp only [List.mem_cons, List.not_mem_nil, or_false] at hu; rcases hu with rfl | rfl | rfl | rfl | rfl | rfl <;> first | rfl | exact h0.one
  pos := by decide
  go := by rintro w A cs x w2 A2 K ⟨vimage, rfl, h0⟩ hk hK hA; exact ⟨_, rfl, h0.go hk hK hA⟩
theorem rMail_open {w : World} {A : BS} {cs : List Value} {x : Mail} (h : rMail.rd w A cs x) : ∃ vimage, cs = [.int .i64 x.from_, .int .i64 x.to_, .int .i64 x.co, .int .i64 x.epoch, .bool x.taken, vimage] ∧ RdSl rInt w A vimage x.image := h
structure Co where
  id_ : Int
  epoch : Int
  image : List Int
  offered : Int
deriving DecidableEq
def rCo : Rep Co where
  sz := 4
  rd w A cs x := ∃ vimage, cs = [.int .i64 x.id_, .int .i64 x.epoch, vimage, .int .i64 x.offered] ∧ RdSl rInt w A vimage x.image
  len := by rintro w A cs x ⟨vimage, rfl, h0⟩; rfl
  one := by rintro w A cs x ⟨vimage, rfl, h0⟩ u hu; simp only [List.mem_cons, List.not_mem_nil, or_false] at hu; rcases hu with rfl | rfl | rfl | rfl <;> first | rfl | exact h0.one
  pos := by decide
  go := by rintro w A cs x w2 A2 K ⟨vimage, rfl, h0⟩ hk hK hA; exact ⟨_, rfl, h0.go hk hK hA⟩
theorem rCo_open {w : World} {A : BS} {cs : List Value} {x : Co} (h : rCo.rd w A cs x) : ∃ vimage, cs = [.int .i64 x.id_, .int .i64 x.epoch, vimage, .int .i64 x.offered] ∧ RdSl rInt w A vimage x.image := h
structure Rec where
  kind : Int
  co : Int
  epoch : Int
  place : Int
  says : List Int
  image : List Int
deriving DecidableEq
def rRec : Rep Rec where
  sz := 6
  rd w A cs x := ∃ vsays, ∃ vimage, cs = [.int .i64 x.kind, .int .i64 x.co, .int .i64 x.epoch, .int .i64 x.place, vsays, vimage] ∧ RdSl rInt w A vsays x.says ∧ RdSl rInt w A vimage x.image
  len := by rintro w A cs x ⟨vsays, vimage, rfl, h0, h1⟩; rfl
  one := by rintro w A cs x ⟨vsays, vimage, rfl, h0, h1⟩ u hu; simp only [List.mem_cons, List.not_mem_nil, or_false] at hu; rcases hu with rfl | rfl | rfl | rfl | rfl | rfl <;> first | rfl | exact h0.one | exact h1.one
  pos := by decide
  go := by rintro w A cs x w2 A2 K ⟨vsays, vimage, rfl, h0, h1⟩ hk hK hA; exact ⟨_, _, rfl, h0.go hk hK hA, h1.go hk hK hA⟩
theorem rRec_open {w : World} {A : BS} {cs : List Value} {x : Rec} (h : rRec.rd w A cs x) : ∃ vsays, ∃ vimage, cs = [.int .i64 x.kind, .int .i64 x.co, .int .i64 x.epoch, .int .i64 x.place, vsays, vimage] ∧ RdSl rInt w A vsays x.says ∧ RdSl rInt w A vimage x.image := h
end Go.LX

namespace Go.LX
theorem Rd2.mapR {α : Type} {R R' : Rep α} {w : World} {B A : BS} {v : Value} {l : List α} (hs : R.sz = R'.sz) (h : ∀ cs x, x ∈ l → R.rd w A cs x → R'.rd w A cs x) (hv : Rd2 R w B A v l) : Rd2 R' w B A v l := by
  obtain ⟨a, cap, rfl, h1, h2, h3, h4⟩ := hv
  refine ⟨a, cap, rfl, h1, h2, h3, fun i hi => ?_⟩
  obtain ⟨b, o, cells, E, fz, e1, e2, e3, e4⟩ := h4 i hi
  refine ⟨b, o, cells, E, fz, e1, e2, e3, ?_⟩
  rw [← hs]
  exact h _ _ (List.getElem_mem hi) e4
structure GStmt where
  kind : Int
  n : Int
  e : List Tok
  f : List Tok
  a : List GStmt
  b : List GStmt
def rStmtN : Nat → { R : Rep GStmt // R.sz = 6 }
  | 0 => ⟨{ sz := 6, rd := fun _ _ _ _ => False, len := fun h => h.elim, one := fun h => h.elim, pos := by decide, go := fun h => h.elim }, rfl⟩
  | d + 1 => ⟨{
      sz := 6
      rd := fun w A cs x => ∃ ve vf va vb, cs = [.int .i64 x.kind, .int .i64 x.n, ve, vf, va, vb] ∧ RdSl rTok w A ve x.e ∧ RdSl rTok w A vf x.f ∧ RdSl (rStmtN d).1 w A va x.a ∧ RdSl (rStmtN d).1 w A vb x.b
      len := by rintro w A cs x ⟨ve, vf, va, vb, rfl, _⟩; rfl
      one := by rintro w A cs x ⟨ve, vf, va, vb, rfl, h1, h2, h3, h4⟩ u hu; simp only [List.mem_cons, List.not_mem_nil, or_false] at hu; rcases hu with rfl | rfl | rfl | rfl | rfl | rfl <;> first | rfl | exact h1.one | exact h2.one | exact h3.one | exact h4.one
      pos := by decide
      go := by rintro w A cs x w2 A2 K ⟨ve, vf, va, vb, rfl, h1, h2, h3, h4⟩ hk hK hA; exact ⟨_, _, _, _, rfl, h1.go hk hK hA, h2.go hk hK hA, h3.go hk hK hA, h4.go hk hK hA⟩ }, rfl⟩
theorem rStmtN_succ : ∀ (d : Nat) {w : World} {A : BS} {cs : List Value} {x : GStmt}, (rStmtN d).1.rd w A cs x → (rStmtN (d + 1)).1.rd w A cs x
  | 0, _, _, _, _, h => h.elim
  | d + 1, _, _, _, _, h => by
    obtain ⟨ve, vf, va, vb, rfl, h1, h2, h3, h4⟩ := h
    exact ⟨ve, vf, va, vb, rfl, h1, h2, h3.mapR ((rStmtN d).2.trans (rStmtN (d + 1)).2.symm) (fun _ _ _ h => rStmtN_succ d h), h4.mapR ((rStmtN d).2.trans (rStmtN (d + 1)).2.symm) (fun _ _ _ h => rStmtN_succ d h)⟩
theorem rStmtN_le {d d' : Nat} (hd : d ≤ d') {w : World} {A : BS} {cs : List Value} {x : GStmt} (h : (rStmtN d).1.rd w A cs x) : (rStmtN d').1.rd w A cs x := by
  induction hd with
  | refl => exact h
  | step _ ih => exact rStmtN_succ _ ih
def rStmt : Rep GStmt where
  sz := 6
  rd w A cs x := ∃ d, (rStmtN d).1.rd w A cs x
  len := by rintro w A cs x ⟨d, h⟩; exact ((rStmtN d).1.len h).trans (rStmtN d).2
  one := by rintro w A cs x ⟨d, h⟩; exact (rStmtN d).1.one h
  pos := by decide
  go := by rintro w A cs x w2 A2 K ⟨d, h⟩ hk hK hA; exact ⟨d, (rStmtN d).1.go h hk hK hA⟩
theorem max_of {P : Nat → Nat → Prop} (hm : ∀ d d' i, d ≤ d' → P d i → P d' i) : ∀ n, (∀ i, i < n → ∃ d, P d i) → ∃ d, ∀ i, i < n → P d i
  | 0, _ => ⟨0, fun i hi => absurd hi (Nat.not_lt_zero _)⟩
  | n + 1, h => by
    obtain ⟨d, hd⟩ := max_of hm n (fun i hi => h i (by omega))
    obtain ⟨d', hd'⟩ := h n (by omega)
    refine ⟨max d d', fun i hi => ?_⟩
    by_cases e : i = n
    · subst e; exact hm _ _ _ (Nat.le_max_right _ _) hd'
    · exact hm _ _ _ (Nat.le_max_left _ _) (hd i (by omega))
theorem rStmt_deep {w : World} {A : BS} {v : Value} {l : List GStmt} (h : RdSl rStmt w A v l) : ∃ d, ∀ d', d ≤ d' → RdSl (rStmtN d').1 w A v l := by
  obtain ⟨a, cap, rfl, h1, h2, h3, h4⟩ := h
  have h5 := max_of (P := fun d i => ∀ h : i < l.length, ∃ b o cells E fz, a = some ⟨b, o, none⟩ ∧ ¬ A b ∧ w.heap[b]? = some (.cells cells E fz) ∧ (rStmtN d).1.rd w A ((cells.toList.drop (o + i * 6)).take 6) l[i])
    (fun d d' i hd hp h => let ⟨b, o, cells, E, fz, e1, e2, e3, e4⟩ := hp h; ⟨b, o, cells, E, fz, e1, e2, e3, rStmtN_le hd e4⟩) l.length
    (fun i hi => by obtain ⟨b, o, cells, E, fz, e1, e2, e3, d, e4⟩ := h4 i hi; exact ⟨d, fun _ => ⟨b, o, cells, E, fz, e1, e2, e3, e4⟩⟩)
  obtain ⟨d, hd⟩ := h5
  refine ⟨d, fun d' hle => ⟨a, cap, rfl, h1, h2, h3, fun i hi => ?_⟩⟩
  obtain ⟨b, o, cells, E, fz, e1, e2, e3, e4⟩ := hd i hi hi
  exact ⟨b, o, cells, E, fz, e1, e2, e3, by rw [(rStmtN d').2]; exact rStmtN_le hle e4⟩
theorem rStmt_open {w : World} {A : BS} {cs : List Value} {x : GStmt} (h : rStmt.rd w A cs x) : ∃ ve vf va vb, cs = [.int .i64 x.kind, .int .i64 x.n, ve, vf, va, vb] ∧ RdSl rTok w A ve x.e ∧ RdSl rTok w A vf x.f ∧ RdSl rStmt w A va x.a ∧ RdSl rStmt w A vb x.b := by
  obtain ⟨d, h⟩ := h
  cases d with
  | zero => exact h.elim
  | succ d =>
    obtain ⟨ve, vf, va, vb, rfl, h1, h2, h3, h4⟩ := h
    exact ⟨ve, vf, va, vb, rfl, h1, h2, h3.mapR (rStmtN d).2 (fun _ _ _ h => ⟨d, h⟩), h4.mapR (rStmtN d).2 (fun _ _ _ h => ⟨d, h⟩)⟩
theorem rStmt_mk {w : World} {A : BS} {cs : List Value} {x : GStmt} (h : ∃ ve vf va vb, cs = [.int .i64 x.kind, .int .i64 x.n, ve, vf, va, vb] ∧ RdSl rTok w A ve x.e ∧ RdSl rTok w A vf x.f ∧ RdSl rStmt w A va x.a ∧ RdSl rStmt w A vb x.b) : rStmt.rd w A cs x := by
  obtain ⟨ve, vf, va, vb, rfl, h1, h2, h3, h4⟩ := h
  obtain ⟨d, hd⟩ := rStmt_deep h3
  obtain ⟨d', hd'⟩ := rStmt_deep h4
  exact ⟨max d d' + 1, ve, vf, va, vb, rfl, h1, h2, hd _ (Nat.le_max_left _ _), hd' _ (Nat.le_max_right _ _)⟩
structure Fun where
  params : Int
  locals : Int
  body : List GStmt
def rFun : Rep Fun where
  sz := 3
  rd w A cs x := ∃ vbody, cs = [.int .i64 x.params, .int .i64 x.locals, vbody] ∧ RdSl rStmt w A vbody x.body
  len := by rintro w A cs x ⟨vbody, rfl, h0⟩; rfl
  one := by rintro w A cs x ⟨vbody, rfl, h0⟩ u hu; simp only [List.mem_cons, List.not_mem_nil, or_false] at hu; rcases hu with rfl | rfl | rfl <;> first | rfl | exact h0.one
  pos := by decide
  go := by rintro w A cs x w2 A2 K ⟨vbody, rfl, h0⟩ hk hK hA; exact ⟨_, rfl, h0.go hk hK hA⟩
theorem rFun_open {w : World} {A : BS} {cs : List Value} {x : Fun} (h : rFun.rd w A cs x) : ∃ vbody, cs = [.int .i64 x.params, .int .i64 x.locals, vbody] ∧ RdSl rStmt w A vbody x.body := h
end Go.LX

namespace Go.LX
/-! Plain laws on what the walks hand over. -/
section
variable {α β σ ρ : Type}
theorem bnd {a : α} {f : α → Option β} : (some a).bind f = f a := Eq.trans (Option.bind_some a f) (Eq.refl _)
theorem idx_nat {l : List α} {i : Nat} : idx l (i : Int) = l[i]? := by simp [idx]
theorem idx_lt {l : List α} {i : Nat} (h : i < l.length) : idx l (i : Int) = some l[i] := by rw [idx_nat, List.getElem?_eq_getElem h]
theorem grd_t {p : Prop} [Decidable p] {x : Option β} (h : p) : grd p x = x := if_pos h
theorem clone_s {b : Nat} {a : List α} (h : a.length * b ≤ 140737488355328) (h2 : a.length ≤ 9223372036854775807) : clone b a = some a := by
  unfold clone
  exact grd_t (Room.mk (by simpa using h) (by simpa using h2))
theorem sub_s {l : List α} {a b : Nat} (h : a ≤ b) (h2 : b ≤ l.length) : sub? l (a : Int) (b : Int) = some ((l.take b).drop a) := by
  unfold sub? cut
  rw [if_pos ⟨by omega, by omega, by omega⟩]
  simp
theorem del_s {l : List α} {a b : Nat} (h : a < b) (h2 : b ≤ l.length) : del1 l (a : Int) (b : Int) = some (l.take a ++ l.drop b) := by
  unfold del1
  rw [if_pos ⟨by omega, by omega, by omega⟩]
  simp
theorem one_at {l : List α} {n : Nat} (h : n < l.length) : (l.take (n + 1)).drop n = [l[n]] := by
  rw [List.drop_take, List.drop_eq_getElem_cons h, show n + 1 - n = 1 by omega]; rfl
def all2 (p : α → β → Bool) : List α → List β → Bool
  | [], [] => true
  | x :: xs, y :: ys => p x y && all2 p xs ys
  | _, _ => false
theorem all2_len {p : α → β → Bool} : ∀ {a : List α} {b : List β}, a.length ≠ b.length → all2 p a b = false
  | [], [], h => absurd rfl h
  | [], _ :: _, _ => rfl
  | _ :: _, [], _ => rfl
  | x :: xs, y :: ys, h => by
    have : xs.length ≠ ys.length := fun e => h (by simp [e])
    simp [all2, all2_len this]
theorem all2_eq [DecidableEq α] {p : α → α → Bool} (hp : ∀ x y, p x y = decide (x = y)) : ∀ (a b : List α), all2 p a b = decide (a = b)
  | [], [] => by simp [all2]
  | [], _ :: _ => by simp [all2]
  | _ :: _, [] => by simp [all2]
  | x :: xs, y :: ys => by simp [all2, hp, all2_eq hp xs ys]
theorem upto_all2 {body : Int → Unit → (Unit → Option Bool) → Option Bool} {kk : Unit → Option Bool} (p : α → β → Bool) (a : List α) (b : List β) (hl : a.length = b.length) (hk : kk () = some true)
    (hb : ∀ (i : Nat) x y nx, a[i]? = some x → b[i]? = some y → body (i : Int) () nx = bif p x y then nx () else some false) : upto body kk 0 a.length () = some (all2 p a b) := by
  have key : ∀ (m i : Nat), i + m = a.length → upto body kk (i : Int) m () = some (all2 p (a.drop i) (b.drop i)) := by
    intro m
    induction m with
    | zero =>
      intro i h
      rw [List.drop_eq_nil_of_le (by omega), List.drop_eq_nil_of_le (by omega)]
      exact hk
    | succ m ih =>
      intro i h
      have h1 : i < a.length := by omega
      have h2 : i < b.length := by omega
      rw [List.drop_eq_getElem_cons h1, List.drop_eq_getElem_cons h2]
      show body (i : Int) () (upto body kk ((i : Int) + 1) m) = _
      rw [hb i a[i] b[i] _ (List.getElem?_eq_getElem h1) (List.getElem?_eq_getElem h2)]
      cases hp : p a[i] b[i] with
      | true => simp only [cond_true, all2, hp, Bool.true_and]; exact ih (i + 1) (by omega)
      | false => simp [all2, hp]
  simpa using key a.length 0 (by omega)
theorem eachI_all2 {body : Int → α → Unit → (Unit → Option Bool) → Option Bool} {kk : Unit → Option Bool} (p : α → β → Bool) (a : List α) (b : List β) (hl : a.length = b.length) (hk : kk () = some true)
    (hb : ∀ (i : Nat) x y nx, b[i]? = some y → body (i : Int) x () nx = bif p x y then nx () else some false) : eachI body kk 0 a () = some (all2 p a b) := by
  have key : ∀ (l : List α) (i : Nat), i + l.length = b.length → eachI body kk (i : Int) l () = some (all2 p l (b.drop i)) := by
    intro l
    induction l with
    | nil =>
      intro i h
      rw [List.drop_eq_nil_of_le (by simp at h; omega)]
      exact hk
    | cons x l ih =>
      intro i h
      simp only [List.length_cons] at h
      have h2 : i < b.length := by omega
      rw [List.drop_eq_getElem_cons h2]
      show body (i : Int) x () (eachI body kk ((i : Int) + 1) l) = _
      rw [hb i x b[i] _ (List.getElem?_eq_getElem h2)]
      cases hp : p x b[i] with
      | true => simp only [cond_true, all2, hp, Bool.true_and]; exact ih (i + 1) (by omega)
      | false => simp [all2, hp]
  simpa using key a 0 (by omega)
theorem upto_eachI {body : Int → σ → (σ → ρ) → ρ} {g : Int → α → σ → (σ → ρ) → ρ} {k : σ → ρ} (l : List α) (hb : ∀ (i : Nat) x s nx, l[i]? = some x → body (i : Int) s nx = g (i : Int) x s nx) (s : σ) : upto body k 0 l.length s = eachI g k 0 l s := by
  have key : ∀ (m i : Nat), i + m = l.length → ∀ s, upto body k (i : Int) m s = eachI g k (i : Int) (l.drop i) s := by
    intro m
    induction m with
    | zero => intro i h s; rw [List.drop_eq_nil_of_le (by omega)]; rfl
    | succ m ih =>
      intro i h s
      have hi : i < l.length := by omega
      rw [List.drop_eq_getElem_cons hi]
      show body (i : Int) s (upto body k ((i : Int) + 1) m) = g (i : Int) l[i] s (eachI g k ((i : Int) + 1) (l.drop (i + 1)))
      rw [hb i l[i] s _ (List.getElem?_eq_getElem hi)]
      congr 1
      funext s'
      exact ih (i + 1) (by omega) s'
  simpa using key l.length 0 (by omega) s
theorem eachI_each {body : Int → α → σ → (σ → ρ) → ρ} {g : α → σ → (σ → ρ) → ρ} {k : σ → ρ} (hb : ∀ (i : Nat) x s nx, body (i : Int) x s nx = g x s nx) : ∀ (l : List α) (i : Nat) (s : σ), eachI body k (i : Int) l s = each g k l s
  | [], _, _ => rfl
  | x :: r, i, s => by
    show body (i : Int) x s (eachI body k ((i : Int) + 1) r) = g x s (each g k r)
    rw [hb]
    congr 1
    funext s'
    exact eachI_each hb r (i + 1) s'
theorem eachI_each0 {body : Int → α → σ → (σ → ρ) → ρ} {g : α → σ → (σ → ρ) → ρ} {k : σ → ρ} (hb : ∀ (i : Nat) x s nx, body (i : Int) x s nx = g x s nx) (l : List α) (s : σ) : eachI body k 0 l s = each g k l s := eachI_each hb l 0 s
theorem upto_find {body : Int → Unit → (Unit → ρ) → ρ} {kk : Unit → ρ} (p : α → Bool) (F : Int → ρ) (l : List α) (hb : ∀ (i : Nat) x nx, l[i]? = some x → body (i : Int) () nx = bif p x then F i else nx ()) :
    upto body kk 0 l.length () = match l.findIdx? p with | some n => F (n : Int) | none => kk () := by
  have key : ∀ (m i : Nat), i + m = l.length → upto body kk (i : Int) m () = match (l.drop i).findIdx? p with | some n => F ((i + n : Nat) : Int) | none => kk () := by
    intro m
    induction m with
    | zero => intro i h; rw [List.drop_eq_nil_of_le (by omega)]; rfl
    | succ m ih =>
      intro i h
      have hi : i < l.length := by omega
      rw [List.drop_eq_getElem_cons hi, List.findIdx?_cons]
      show body (i : Int) () (upto body kk ((i : Int) + 1) m) = _
      rw [hb i l[i] _ (List.getElem?_eq_getElem hi)]
      cases hp : p l[i] with
      | true => rfl
      | false =>
        simp only [cond_false, Bool.false_eq_true, if_false]
        have := ih (i + 1) (by omega)
        rw [show ((i + 1 : Nat) : Int) = (i : Int) + 1 from rfl] at this
        rw [this]
        cases (l.drop (i + 1)).findIdx? p with
        | none => rfl
        | some n => simp only [Option.map_some]; congr 1; omega
  have := key l.length 0 (by omega)
  simp only [List.drop_zero, Nat.zero_add] at this
  exact this
theorem ins_s {l m : List α} {a : Nat} (h : a ≤ l.length) : ins1 l (a : Int) m = some (l.take a ++ m ++ l.drop a) := by
  unfold ins1
  rw [if_pos ⟨by omega, by omega⟩]
  simp
theorem del_s1 {l : List α} {a : Nat} (h : a < l.length) : del1 l (a : Int) ((a : Int) + 1) = some (l.take a ++ l.drop (a + 1)) := by
  have := del_s (l := l) (a := a) (b := a + 1) (by omega) (by omega)
  exact this
theorem grd_f {p : Prop} [Decidable p] {x : Option β} (h : ¬ p) : grd p x = none := if_neg h
theorem dT {p : Prop} [Decidable p] (h : p) : decide p = true := decide_eq_true h
theorem dF {p : Prop} [Decidable p] (h : ¬ p) : decide p = false := decide_eq_false h
theorem gI {x : Int} {y : Option β} (h1 : -9223372036854775808 ≤ x := by omega) (h2 : x ≤ 9223372036854775807 := by omega) : grd (I64 x) y = y := grd_t (I64.mk h1 h2)
end
end Go.LX
