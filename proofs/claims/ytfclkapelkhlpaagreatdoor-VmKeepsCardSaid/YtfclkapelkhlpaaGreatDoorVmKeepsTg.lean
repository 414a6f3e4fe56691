/-
  What the law VmKeeps needs of our own library and of the walks, no more.
-/
import Derived.Test.YtfclkapelkhlpaaGreatDoorRows
import Derived.Test.YtfclkapelkhlpaaGreatDoorCards
import Derived.Test.YtfclkapelkhlpaaGreatDoorTie
import Derived.WalkKit
import Derived.Laws.StructEq
import Derived.ChangeKeysEq
import Derived.StillTail
import Derived.LoopN
import Derived.Deep.Quiet
import Derived.OrdersHeld
import Derived.Deep.RegionHeld3
import Derived.Deep.Slices
import Derived.MapKept
import Derived.Lib.Bytealg
import Derived.ChangeArms
import Derived.Lib.AppendZeros
import Derived.Lib.Overlaps
import Derived.Laws.CopyRow
import Derived.Shelf.SlSortCmp.SmallK
import Derived.Laws.Pointers
import Derived.Laws.OwnMore
import Derived.Laws.Concat
import Derived.Laws.Strings2
import Derived.Laws.Strings3
import Derived.Laws.IdiomStrings
import Derived.Lib.AppendStr
import Derived.Lib.ConvBytes
import Derived.Lib.LaidTab
import Derived.Lib.ItoaNum
import Derived.WideLaws
import Derived.Lib.SplitLaws
import Derived.Lib.JoinLaws
import Derived.Lib.AtoiAll
import Derived.Lib.ParseIntB
import Derived.Laws.NewFold
import Derived.Lib.Join
import Derived.Lib.Strings
import Derived.Sort.Grow
import Derived.Lib.Space
import Derived.Handed
import Derived.LaidMore
import Derived.LaidHandle
import Derived.Stop.LaidErr
import Derived.Shelf.Vars
import Derived.WideShapes
import Derived.Lib.ParseIntBTie
import Derived.Lib.ItoaLen
import Derived.Lib.AtoiAllCases
import Derived.Shelf.Strings.Builder1
import Derived.Laws.IdiomRangeMap
import Derived.Lib.FieldsLaws
import Derived.KernelRfl
import Derived.Test.YtfclkapelkhlpaaGreatDoorProg
import Derived.Lib.Slices
import Derived.Lib.Walk
import Derived.Shelf.Strings.OnBuilder
import Derived.Shelf.LaysM
import Derived.Shelf.Strconv.Itoa3
import Derived.Shelf.LaysC
import Derived.Shelf.Strconv.AtoiAll
import Derived.Shelf.Strconv.ErrVarAll
import Derived.Shelf.Strings.Split
import Derived.Shelf.Strings.Fields
import Derived.Shelf.Strings.BuilderX
import Derived.ProofKit
import Derived.SevenTiedAt
import Derived.OpenShut
import Derived.ShutString
import Derived.ChangeOld
import Derived.Below
import Derived.Test.YtfclkapelkhlpaaGreatDoorVmKeepsTf
set_option linter.unusedSimpArgs false
set_option linter.unusedVariables false
set_option maxRecDepth 10000
namespace Go.Proofs.YtfclkapelkhlpaaGreatDoor
open Go Go.Proofs Go.LX
def ren (l : List Int) (v : Val) : Val := if v.kind = 2 then ⟨v.kind, (l.idxOf v.n : Nat)⟩ else v
def renF (l : List Int) (f : LX.Frame) : LX.Frame := { f with regs := f.regs.map (ren l) }
def roots (fr : List LX.Frame) : List Val := fr.flatMap (·.regs)
def reachS (s : LX.State) : List Int := reachP s.cells (roots s.frames)
def sweepP (s : LX.State) : LX.State := ⟨s.frames.map (renF (reachS s)), (reachS s).map (fun k => (cellAt s.cells k).map (ren (reachS s))), s.status, s.wher⟩
structure SwOk (s : LX.State) : Prop where
  small : Small s
  cells : CellsOk s.cells
  vals : ∀ f ∈ s.frames, ∀ v ∈ f.regs, ValOk s.cells.length v
theorem StOk.sw {a : List Proc} {s : LX.State} (h : StOk a s) (ha : CodeOk a) : SwOk s where
  small := h.small ha
  cells := h.cells
  vals f hf := by obtain ⟨x, g⟩ := framesOk_all h.frames f hf; exact g.vals
theorem SwOk.roots {s : LX.State} (h : SwOk s) : ∀ v ∈ roots s.frames, ValOk s.cells.length v := by
  intro v hv
  unfold YtfclkapelkhlpaaGreatDoor.roots at hv
  obtain ⟨f, hf, hv⟩ := List.mem_flatMap.1 hv
  exact h.vals f hf v hv
theorem roots_len (fr : List LX.Frame) (h : ∀ f ∈ fr, f.regs.length ≤ 40) : (roots fr).length ≤ 40 * fr.length := by
  induction fr with
  | nil => simp [roots]
  | cons f l ih =>
    have := h f (by simp)
    have := ih (fun g hg => h g (List.mem_cons_of_mem _ hg))
    unfold roots at *
    rw [List.flatMap_cons, List.length_append, List.length_cons]; omega
theorem SwOk.rlen {s : LX.State} (h : SwOk s) : (YtfclkapelkhlpaaGreatDoor.roots s.frames).length ≤ 400 := by
  have := roots_len s.frames h.small.regs
  have := h.small.frames
  omega
theorem SwOk.reach {s : LX.State} (h : SwOk s) : MetOk s.cells.length (reachS s) ∧ RefsIn (YtfclkapelkhlpaaGreatDoor.roots s.frames) (reachS s) ∧ ∀ x ∈ reachS s, RefsIn (cellAt s.cells x) (reachS s) := reach_ok h.cells h.roots
theorem map_loop {α ρ : Type} {body : Int → List α → (List α → Option ρ) → Option ρ} {K : List α → Option ρ} {g : α → α} {P : α → Prop}
    (hb : ∀ (i : Nat) (x : List α) a nx, x[i]? = some a → P a → body (i : Int) x nx = nx (x.set i (g a))) :
    ∀ (l2 l1 : List α), (∀ a ∈ l2, P a) → upto body K (l1.length : Int) l2.length (l1 ++ l2) = K (l1 ++ l2.map g)
  | [], l1, _ => by simp [upto]
  | a :: l2, l1, h => by
    rw [List.length_cons, upto_succ, hb l1.length (l1 ++ a :: l2) a _ (by simp) (h a (by simp))]
    have := map_loop (K := K) hb l2 (l1 ++ [g a]) (fun b hb => h b (List.mem_cons_of_mem _ hb))
    rw [show (l1 ++ a :: l2).set l1.length (g a) = (l1 ++ [g a]) ++ l2 by simp, show ((l1.length : Int) + 1) = ((l1 ++ [g a]).length : Nat) by simp, this]
    simp
theorem map_loop0 {α ρ : Type} {body : Int → List α → (List α → Option ρ) → Option ρ} {K : List α → Option ρ} {g : α → α} {P : α → Prop}
    (hb : ∀ (i : Nat) (x : List α) a nx, x[i]? = some a → P a → body (i : Int) x nx = nx (x.set i (g a))) (l : List α) (hp : ∀ a ∈ l, P a) : upto body K 0 l.length l = K (l.map g) := by
  have := map_loop (K := K) hb l [] hp
  simpa using this
def Places (l : List Int) (m : List (Int × Int)) : Prop := ∀ k, lk k m = if k ∈ l then some ((l.idxOf k : Nat) : Int) else none
theorem turn_eq {l : List Int} {m : List (Int × Int)} (h : Places l m) (vs : List Val) (hr : RefsIn vs l) : vmTurn vs m = some (vs.map (ren l)) := by
  unfold vmTurn
  rw [Int.toNat_natCast]
  refine map_loop0 (P := fun v => v.kind = 2 → v.n ∈ l) (fun i x a nx hx hp => ?_) vs (fun v hv => hr v hv)
  unfold vmTurn_b4 vmTurn_j3
  rw [idx_nat, hx, bnd]
  by_cases hk : a.kind = 2
  · rw [dT hk, cond_true, h a.n, if_pos (hp hk)]
    simp [ren, hk]
  · rw [dF hk, cond_false]
    have : x.set i a = x := by
      obtain ⟨h1, rfl⟩ := List.getElem?_eq_some_iff.1 hx
      exact List.set_getElem_self h1
    simp [ren, hk, this]
theorem place_loop {s : LX.State} (hc : CellsOk s.cells) {K : List (List Val) × List Int × List (Int × Int) → Option LX.State} : ∀ (l2 l1 : List Int) (m : List (Int × Int)), MetOk s.cells.length (l1 ++ l2) → Places l1 m →
    ∃ m', Places (l1 ++ l2) m' ∧ eachI (vm_Sweep_b13 s) K (l1.length : Int) l2 (l1.map (cellAt s.cells), l1, m) = K ((l1 ++ l2).map (cellAt s.cells), l1 ++ l2, m')
  | [], l1, m, _, h => ⟨m, by simpa using h, by simp [eachI]⟩
  | k :: l2, l1, m, hm, h => by
    have e1 : l1 ++ k :: l2 = (l1 ++ [k]) ++ l2 := by simp
    have hk : k ∉ l1 := by
      intro hk
      exact (List.nodup_append.1 hm.1).2.2 k hk k (by simp) rfl
    have hl := hm.len
    have hn := hc.1
    simp only [List.length_append, List.length_cons] at hl
    have hr := hm.2 k (by simp)
    rw [eachI_cons]
    obtain ⟨m', h1, h2⟩ := place_loop hc (K := K) l2 (l1 ++ [k]) (lput k (l1.length : Int) m) (by rw [← e1]; exact hm) (fun q => by
      rw [lk_lput]
      by_cases e : q = k
      · subst e
        rw [if_pos rfl, if_pos (by simp), List.idxOf_append, if_neg hk]
        simp
      · rw [if_neg e, h q]
        by_cases hq : q ∈ l1
        · rw [if_pos hq, if_pos (by simp [hq]), List.idxOf_append, if_pos hq]
        · rw [if_neg hq, if_neg (by simp [hq, e])])
    refine ⟨m', by rw [e1]; exact h1, ?_⟩
    have hlen : (((l1 ++ [k]).length : Nat) : Int) = (l1.length : Int) + 1 := by simp
    rw [hlen] at h2
    rw [e1, ← h2]
    generalize eachI (vm_Sweep_b13 s) K ((l1.length : Int) + 1) l2 = K1
    unfold vm_Sweep_b13
    simp only
    rw [(cellAt_mem hr).1, bnd, grd_t hk, grd_t (room_le (by simp; omega) (by decide)), List.map_append]
    rfl
theorem frames_sweep {l : List Int} {m : List (Int × Int)} (h : Places l m) (K : List LX.Frame → Option LX.State) (fr : List LX.Frame) (hr : ∀ f ∈ fr, RefsIn f.regs l) : upto (vm_Sweep_b11 m) K 0 fr.length fr = K (fr.map (renF l)) :=
  map_loop0 (P := fun f => RefsIn f.regs l) (fun i x a nx hx hp => by
    unfold vm_Sweep_b11
    rw [idx_nat, hx, bnd, turn_eq h a.regs hp, bnd]
    simp [renF]) fr hr
theorem cells_sweep {l : List Int} {m : List (Int × Int)} (h : Places l m) (K : List (List Val) → Option LX.State) (cs : List (List Val)) (hr : ∀ c ∈ cs, RefsIn c l) : upto (vm_Sweep_b9 m) K 0 cs.length cs = K (cs.map (fun c => c.map (ren l))) :=
  map_loop0 (P := fun c => RefsIn c l) (fun i x a nx hx hp => by
    unfold vm_Sweep_b9
    rw [idx_nat, hx, bnd, turn_eq h a hp, bnd]
    simp) cs hr
theorem root_loop {K : List Val → Option LX.State} : ∀ (fr : List LX.Frame) (acc : List Val), acc.length + (roots fr).length ≤ 1000 → each vm_Sweep_b15 K fr acc = K (acc ++ roots fr)
  | [], acc, _ => by simp [each_nil, roots]
  | f :: fr, acc, h => by
    have e : roots (f :: fr) = f.regs ++ roots fr := rfl
    rw [e, List.length_append] at h
    rw [each_cons]
    have ih := root_loop (K := K) fr (acc ++ f.regs) (by simp; omega)
    generalize each vm_Sweep_b15 K fr = K1 at ih ⊢
    unfold vm_Sweep_b15
    rw [grd_t (room_le (by omega) (by decide)), ih, e, List.append_assoc]
theorem roots_in {fr : List LX.Frame} {l : List Int} (h : RefsIn (roots fr) l) : ∀ f ∈ fr, RefsIn f.regs l := fun f hf v hv hk => h v (List.mem_flatMap.2 ⟨f, hf, hv⟩) hk
theorem sweep_eq {N : Nat} (hN : 100 ≤ N) {s : LX.State} (h : SwOk s) : vm_Sweep N s = some (sweepP s) := by
  have hr := h.reach
  unfold vm_Sweep
  rw [root_loop s.frames [] (by have := h.rlen; simp; omega), List.nil_append]
  unfold vm_Sweep_k16
  rw [reach_eq hN h.cells h.roots h.rlen, bnd, dF (by simp), cond_false, copy_eq h.small, bnd]
  have e : reachP s.cells (roots s.frames) = reachS s := rfl
  simp only [e]
  obtain ⟨m', h1, h2⟩ := place_loop h.cells (K := vm_Sweep_k14 s) (reachS s) [] [] (by simpa using hr.1) (fun k => by simp [lk])
  have h2' : eachI (vm_Sweep_b13 s) (vm_Sweep_k14 s) 0 (reachS s) ([], ([] : List Int), ([] : List (Int × Int))) = _ := h2
  rw [h2']
  simp only [List.nil_append] at h1 ⊢
  unfold vm_Sweep_k14
  simp only [Int.toNat_natCast]
  rw [frames_sweep h1 _ _ (roots_in hr.2.1)]
  unfold vm_Sweep_k12
  rw [Int.toNat_natCast, cells_sweep h1 _ _ (fun c hc => by
    obtain ⟨k, hk, rfl⟩ := List.mem_map.1 hc
    exact hr.2.2 k hk)]
  unfold vm_Sweep_k10 sweepP
  rw [List.map_map]; rfl
end Go.Proofs.YtfclkapelkhlpaaGreatDoor
namespace Go.Proofs.YtfclkapelkhlpaaGreatDoor
open Go Go.Proofs Go.LX
def regAt (r : List Val) (i : Int) : Val := (idx r i).getD ⟨0, 0⟩
def opP (k : Int) (b c : Val) : Option Val :=
  if k = 5 then some ⟨1, if b = c then 1 else 0⟩ else if b.kind ≠ 1 ∨ c.kind ≠ 1 then none else if k = 4 then some ⟨1, if b.n < c.n then 1 else 0⟩ else
  let n := if k = 1 then b.n + c.n else if k = 2 then b.n - c.n else b.n * c.n
  if -1000000000 ≤ n ∧ n ≤ 1000000000 then some ⟨1, n⟩ else none
def adv (f : LX.Frame) (x : Proc) : LX.Frame := { f with at_ := min (f.at_ + 1) ((x.code.length : Int) - 1) }
def newP (s : LX.State) (c : Ins) : Option LX.State :=
  if s.cells.length = 24 then none else some ⟨s.frames.dropLast ++ (s.frames.getLast?.map fun h => { h with regs := h.regs.set c.a.toNat ⟨2, s.cells.length⟩ }).toList, s.cells ++ [List.replicate c.b.toNat ⟨0, 0⟩], s.status, s.wher⟩
def stepC (a : List Proc) (pre : List LX.Frame) (f : LX.Frame) (cells : List (List Val)) (st wh : Int) (x : Proc) (c : Ins) : Option (LX.State × Option Int × Bool) :=
  let g := adv f x
  let r := regAt f.regs
  let put := fun (v : Val) => (⟨pre ++ [{ g with regs := f.regs.set c.a.toNat v }], cells, st, wh⟩ : LX.State)
  let stay := (⟨pre ++ [g], cells, st, wh⟩ : LX.State)
  let jump := (⟨pre ++ [{ g with at_ := c.b }], cells, st, wh⟩ : LX.State)
  let bad := fun (v : Val) => v.kind ≠ 2 ∨ ((cellAt cells v.n).length : Int) ≤ c.c
  if c.op = 1 then some (put ⟨1, c.b⟩, none, false) else
  if c.op = 2 then some (put (r c.b), none, false) else
  if c.op = 3 then (opP (c.args.headD 0) (r c.b) (r c.c)).map fun v => (put v, none, false) else
  if c.op = 4 then (if bad (r c.b) then none else some (put (regAt (cellAt cells (r c.b).n) c.c), none, false)) else
  if c.op = 6 then (if bad (r c.a) then none else some (⟨pre ++ [g], cells.set (r c.a).n.toNat ((cellAt cells (r c.a).n).set c.c.toNat (r c.b)), st, wh⟩, none, false)) else
  if c.op = 5 then (newP (if cells.length = 24 then sweepP stay else stay) c).map fun t => (t, none, false) else
  if c.op = 7 then (if pre.length + 1 = 10 then none else some (⟨pre ++ [g] ++ [⟨c.b, 0, c.args.map r ++ List.replicate (((idx a c.b).map (·.regs)).getD 0 - c.args.length).toNat ⟨0, 0⟩, c.a⟩], cells, st, wh⟩, none, false)) else
  if c.op = 8 then some (match pre.getLast? with
    | none => ⟨[], cells, 1, wh⟩
    | some h => ⟨pre.dropLast ++ [{ h with regs := h.regs.set f.to_.toNat (r c.a) }], cells, st, wh⟩, none, false) else
  if c.op = 9 then (if (r c.a).kind = 1 then some (stay, some (r c.a).n, false) else none) else
  if c.op = 11 then (if (r c.a).kind = 1 then some (⟨pre ++ [g], cells, 3, (r c.a).n⟩, none, true) else none) else
  if c.op = 12 then some (jump, none, false) else
  if c.op = 13 then some (if (r c.a).kind ≠ 2 ∧ (r c.a).n = 0 then jump else stay, none, false) else
  some (stay, none, true)
def R1 (r : Option (VOut × Bool × LX.State)) (q : Option (LX.State × Option Int × Bool)) : Prop := ∃ o ok s', r = some (o, ok, s') ∧ match q with | none => ok = false | some (t, said, p) => ok = true ∧ s' = t ∧ o = ⟨said.isSome, said.getD 0, p⟩
theorem regAt_of {R : Int} {r : List Val} (hr : (r.length : Int) = R) {i : Int} (h : Reg R i) : idx r i = some (regAt r i) ∧ regAt r i ∈ r := by
  obtain ⟨h1, h2⟩ := h
  obtain ⟨n, rfl⟩ := Int.eq_ofNat_of_zero_le h1
  unfold regAt
  rw [idx_lt (by omega)]
  exact ⟨rfl, List.getElem_mem _⟩
theorem top_idx (pre : List LX.Frame) (f : LX.Frame) : idx (pre ++ [f]) (pre.length : Int) = some f := by rw [idx_nat]; simp
theorem top_set (pre : List LX.Frame) (f g : LX.Frame) : (pre ++ [f]).set pre.length g = pre ++ [g] := by simp
theorem top_len (pre : List LX.Frame) (f : LX.Frame) : (((pre ++ [f]).length : Int) - 1) = (pre.length : Int) := by simp
theorem mul_bd {x y : Int} (hx : -1000000000 ≤ x ∧ x ≤ 1000000000) (hy : -1000000000 ≤ y ∧ y ≤ 1000000000) : -1000000000000000000 ≤ x * y ∧ x * y ≤ 1000000000000000000 := by
  have h1 : (x * y).natAbs ≤ 1000000000 * 1000000000 := by
    rw [Int.natAbs_mul]
    exact Nat.mul_le_mul (by omega) (by omega)
  omega
theorem ValOk.int {n : Nat} {v : Val} (h : ValOk n v) (hk : v.kind = 1) : -1000000000 ≤ v.n ∧ v.n ≤ 1000000000 := by unfold ValOk at h; omega
theorem op_eq {n : Nat} {k : Int} {b c : Val} (hk : 1 ≤ k ∧ k ≤ 5) (hb : ValOk n b) (hc : ValOk n c) : ∃ v, vm_op k b c = some (v, (opP k b c).isSome) ∧ ∀ w, opP k b c = some w → v = w := by
  unfold vm_op opP vm_op_j1
  by_cases h5 : k = 5
  · rw [dT h5, cond_true, if_pos h5]
    by_cases e : b = c
    · subst e; simp
    · rw [if_neg e]
      have : (decide (b.kind = c.kind) && decide (b.n = c.n)) = false := by
        obtain ⟨k1, n1⟩ := b; obtain ⟨k2, n2⟩ := c
        rw [Bool.and_eq_false_iff]; simp at e ⊢
        by_cases h : k1 = k2
        · right; exact e h
        · left; exact h
      rw [this]; simp
  rw [dF h5, cond_false, if_neg h5]
  by_cases hi : b.kind = 1 ∧ c.kind = 1
  · rw [show (decide ((b.kind : Int) ≠ 1) || decide ((c.kind : Int) ≠ 1)) = false by simp [hi.1, hi.2], cond_false, if_neg (by simp [hi.1, hi.2])]
    have b1 := hb.int hi.1
    have c1 := hc.int hi.2
    have m1 := mul_bd b1 c1
    have fin : ∀ z : Int, ∃ v, some ((⟨1, z⟩ : Val), (decide ((-1000000000 : Int) ≤ z) && decide ((z : Int) ≤ 1000000000))) = some (v, (if -1000000000 ≤ z ∧ z ≤ 1000000000 then some (⟨1, z⟩ : Val) else none).isSome) ∧ ∀ w, (if -1000000000 ≤ z ∧ z ≤ 1000000000 then some (⟨1, z⟩ : Val) else none) = some w → v = w := by
      intro z
      by_cases h : -1000000000 ≤ z ∧ z ≤ 1000000000
      · rw [if_pos h, dT h.1, dT h.2]; exact ⟨_, rfl, fun w e => by cases e; rfl⟩
      · rw [if_neg h]
        refine ⟨⟨1, z⟩, ?_, fun w e => by cases e⟩
        · congr 2
          rw [Option.isSome_none, Bool.and_eq_false_iff]; simp only [decide_eq_false_iff_not]; omega
    by_cases h4 : k = 4
    · subst h4
      rw [if_pos rfl]
      simp only [Int.reduceEq, decide_false, decide_true, cond_false, cond_true]
      by_cases e : b.n < c.n <;> simp [e]
    rw [if_neg h4]
    by_cases h1 : k = 1
    · subst h1
      simp only [Int.reduceEq, decide_true, cond_true, if_true]
      rw [gI (by omega) (by omega)]
      exact fin _
    by_cases h2 : k = 2
    · subst h2
      simp only [Int.reduceEq, decide_true, decide_false, cond_true, cond_false, if_true, if_false]
      rw [gI (by omega) (by omega)]
      exact fin _
    · obtain rfl : k = 3 := by omega
      simp only [Int.reduceEq, decide_true, decide_false, cond_true, cond_false, if_true, if_false]
      rw [gI (by omega) (by omega)]
      exact fin _
  · rw [show (decide ((b.kind : Int) ≠ 1) || decide ((c.kind : Int) ≠ 1)) = true by simp; omega, cond_true, if_pos (by omega)]
    exact ⟨_, rfl, fun w e => by cases e⟩
end Go.Proofs.YtfclkapelkhlpaaGreatDoor
namespace Go.Proofs.YtfclkapelkhlpaaGreatDoor
open Go Go.Proofs Go.LX
theorem framesOk_snoc {a : List Proc} {n : Nat} {f : LX.Frame} : ∀ {l : List LX.Frame} {t : Int}, FramesOk a n t (l ++ [f]) ↔ FramesOk a n t l ∧ (∃ x, FrOk a n f x) ∧ (0 ≤ f.to_ ∧ f.to_ < (match l.getLast? with | none => t | some g => g.regs.length))
  | [], t => by simp [FramesOk]
  | g :: l, t => by
    show ((∃ x, FrOk a n g x) ∧ (0 ≤ g.to_ ∧ g.to_ < t) ∧ FramesOk a n g.regs.length (l ++ [f])) ↔ _
    rw [framesOk_snoc (l := l)]
    have e : (match (g :: l).getLast? with | none => t | some g => ((g.regs.length : Int))) = (match l.getLast? with | none => ((g.regs.length : Int)) | some g => (g.regs.length : Int)) := by
      rw [List.getLast?_cons]
      cases l.getLast? <;> rfl
    rw [e]
    simp only [FramesOk, and_assoc]
structure TopOk (a : List Proc) (pre : List LX.Frame) (f : LX.Frame) (cells : List (List Val)) (x : Proc) (c : Ins) : Prop where
  fr : FrOk a cells.length f x
  ins : idx x.code f.at_ = some c
  good : InsG a x.regs x.code.length c
  chain : FramesOk a cells.length 1 pre
  to_ : 0 ≤ f.to_ ∧ f.to_ < ahead pre
  many : pre.length + 1 ≤ 10
  cok : CellsOk cells
  proc : (1 ≤ x.regs ∧ x.regs ≤ 40) ∧ CodeLen x
theorem top_ok {a : List Proc} (ha : CodeOk a) {pre : List LX.Frame} {f : LX.Frame} {cells : List (List Val)} {st wh : Int} (h : StOk a ⟨pre ++ [f], cells, st, wh⟩) : ∃ x c, TopOk a pre f cells x c := by
  obtain ⟨h1, ⟨x, g⟩, h3⟩ := framesOk_snoc.1 h.frames
  have hm := ha.mem g.proc
  have hat := g.at_
  obtain ⟨n, hn⟩ := Int.eq_ofNat_of_zero_le hat.1
  have hlt : n < x.code.length := by omega
  refine ⟨x, x.code[n], g, by rw [hn, idx_lt hlt], ha.ins x hm.1 _ (List.getElem_mem _), h1, h3, ?_, h.cells, ⟨by omega, hm.2.2.2⟩⟩
  have := h.many
  simpa using this
theorem TopOk.adv {a : List Proc} {pre : List LX.Frame} {f : LX.Frame} {cells : List (List Val)} {x : Proc} {c : Ins} (h : TopOk a pre f cells x c) : FrOk a cells.length (adv f x) x where
  proc := h.fr.proc
  at_ := by
    have := h.fr.at_
    have := h.proc.2
    unfold CodeLen at this
    simp only [YtfclkapelkhlpaaGreatDoor.adv]
    omega
  regs := h.fr.regs
  vals := h.fr.vals
theorem TopOk.reg {a : List Proc} {pre : List LX.Frame} {f : LX.Frame} {cells : List (List Val)} {x : Proc} {c : Ins} (h : TopOk a pre f cells x c) {i : Int} (hi : Reg x.regs i) : idx f.regs i = some (regAt f.regs i) ∧ ValOk cells.length (regAt f.regs i) := by
  have := regAt_of h.fr.regs hi
  exact ⟨this.1, h.fr.vals _ this.2⟩
theorem TopOk.sw {a : List Proc} {pre : List LX.Frame} {f : LX.Frame} {cells : List (List Val)} {x : Proc} {c : Ins} (ha : CodeOk a) (h : TopOk a pre f cells x c) {st wh : Int} {g : LX.Frame} (hg : FrOk a cells.length g x) : SwOk ⟨pre ++ [g], cells, st, wh⟩ where
  small := ⟨by have := h.many; simp; omega, fun k hk => by
    rcases List.mem_append.1 hk with hk | hk
    · obtain ⟨y, hy⟩ := framesOk_all h.chain k hk
      have := hy.regs
      have := (ha.mem hy.proc).2.2.1
      omega
    · simp at hk; subst hk
      have := hg.regs
      have := h.proc.1
      omega, h.cok.1, fun c hc => (h.cok.2 c hc).1.2⟩
  cells := h.cok
  vals k hk := by
    rcases List.mem_append.1 hk with hk | hk
    · obtain ⟨y, hy⟩ := framesOk_all h.chain k hk
      exact hy.vals
    · simp at hk; subst hk; exact hg.vals
section
variable {a : List Proc} {pre : List LX.Frame} {f : LX.Frame} {cells : List (List Val)} {st wh : Int} {x : Proc} {c : Ins} {N : Nat}
theorem step_red (h : TopOk a pre f cells x c) : vm_step N ⟨pre ++ [f], cells, st, wh⟩ a = (bif decide ((c.op : Int) = 1) then (idx f.regs c.a).bind fun x41 => vm_step_j3 false (pre ++ [{ adv f x with regs := (f.regs.set (c.a).toNat (⟨1, c.b⟩ : Val)) }]) cells st wh else bif decide ((c.op : Int) = 2) then (idx f.regs c.b).bind fun x48 => (idx f.regs c.a).bind fun x56 => vm_step_j3 false (pre ++ [{ adv f x with regs := (f.regs.set (c.a).toNat x48) }]) cells st wh else bif decide ((c.op : Int) = 3) then (idx c.args 0).bind fun q5 => (idx f.regs c.b).bind fun q10 => (idx f.regs c.c).bind fun q15 => (vm_op q5 q10 q15).bind fun q17 => (idx f.regs c.a).bind fun q21 => vm_step_j4 ⟨pre ++ [f], cells, st, wh⟩ q17.2 (pre ++ [{ adv f x with regs := (f.regs.set (c.a).toNat q17.1) }]) else bif decide ((c.op : Int) = 4) then vm_step_j5 N ⟨pre ++ [f], cells, st, wh⟩ f x c a (decide ((c.op : Int) = 4)) else vm_step_j5 N ⟨pre ++ [f], cells, st, wh⟩ f x c a (decide ((c.op : Int) = 6))) := by
  have hm := h.many
  have hat := h.fr.at_
  have hl := h.proc.2
  unfold CodeLen at hl
  unfold vm_step
  simp only [top_len]
  rw [gI (by omega) (by omega), top_idx, bnd, h.fr.proc, bnd, h.ins, bnd, gI (by omega) (by omega), gI (by omega) (by omega)]
  simp only [Int.toNat_natCast, top_set]
  rfl
theorem step1 (h : TopOk a pre f cells x c) (hop : c.op = 1) (hr : Reg x.regs c.a) : R1 (vm_step N ⟨pre ++ [f], cells, st, wh⟩ a) (stepC a pre f cells st wh x c) := by
  rw [step_red h, hop]
  simp only [Int.reduceEq, decide_true, decide_false, cond_true, cond_false]
  rw [(h.reg hr).1, bnd]
  unfold stepC
  simp only [hop, if_true]
  exact ⟨_, _, _, rfl, rfl, rfl, rfl⟩
theorem step2 (h : TopOk a pre f cells x c) (hop : c.op = 2) (hr : Reg x.regs c.a) (hb : Reg x.regs c.b) : R1 (vm_step N ⟨pre ++ [f], cells, st, wh⟩ a) (stepC a pre f cells st wh x c) := by
  rw [step_red h, hop]
  simp only [Int.reduceEq, decide_true, decide_false, cond_true, cond_false]
  rw [(h.reg hb).1, bnd, (h.reg hr).1, bnd]
  unfold stepC
  simp only [hop, Int.reduceEq, if_true, if_false]
  exact ⟨_, _, _, rfl, rfl, rfl, rfl⟩
theorem step3 (h : TopOk a pre f cells x c) (hop : c.op = 3) (hr : Reg x.regs c.a) (hb : Reg x.regs c.b) (hc : Reg x.regs c.c) {n : Int} (hn : c.args = [n]) (hn2 : 1 ≤ n ∧ n ≤ 5) : R1 (vm_step N ⟨pre ++ [f], cells, st, wh⟩ a) (stepC a pre f cells st wh x c) := by
  rw [step_red h, hop, hn]
  simp only [Int.reduceEq, decide_true, decide_false, cond_true, cond_false]
  obtain ⟨v, h1, h2⟩ := op_eq hn2 (h.reg hb).2 (h.reg hc).2
  rw [idx0, bnd, (h.reg hb).1, bnd, (h.reg hc).1, bnd, h1, bnd, (h.reg hr).1, bnd]
  unfold stepC vm_step_j4
  simp only [hop, hn, Int.reduceEq, if_true, if_false, List.headD_cons]
  cases e : opP n (regAt f.regs c.b) (regAt f.regs c.c) with
  | none => exact ⟨_, _, _, rfl, rfl⟩
  | some w => rw [h2 w e]; exact ⟨_, _, _, rfl, rfl, rfl, rfl⟩
theorem idx_cell {v : Val} (hc : CellsOk cells) (h : ValOk cells.length v) (hk : v.kind = 2) : idx cells v.n = some (cellAt cells v.n) ∧ (1 ≤ (cellAt cells v.n).length ∧ (cellAt cells v.n).length ≤ 4) := by
  have hr := h.ref hk
  exact ⟨(cellAt_mem hr).1, (hc.at hr).1⟩
theorem idx_fld {v : Val} {i : Int} (hi : 0 ≤ i) (h : i < ((cellAt cells v.n).length : Int)) : idx (cellAt cells v.n) i = some (regAt (cellAt cells v.n) i) := (regAt_of rfl ⟨hi, h⟩).1
theorem field_get (h : TopOk a pre f cells x c) (hop : c.op = 4) (hr : Reg x.regs c.a) (hb : Reg x.regs c.b) (hc : 0 ≤ c.c ∧ c.c < 4) : R1 (vm_step N ⟨pre ++ [f], cells, st, wh⟩ a) (stepC a pre f cells st wh x c) := by
  rw [step_red h, hop]
  simp only [Int.reduceEq, decide_true, decide_false, cond_true, cond_false]
  unfold vm_step_j5 vm_field vm_field_j1 vm_field_j3
  simp only [top_len, Int.toNat_natCast, top_set, hop, Int.reduceEq, decide_true, decide_false, cond_true, cond_false]
  have hv := h.reg hb
  rw [hv.1]
  simp only [bnd]
  unfold stepC
  simp only [hop, Int.reduceEq, if_true, if_false]
  by_cases hk : (regAt f.regs c.b).kind = 2
  · have hcell := idx_cell h.cok hv.2 hk
    rw [dF (by omega), cond_false, hcell.1]
    simp only [bnd]
    by_cases hl : ((cellAt cells (regAt f.regs c.b).n).length : Int) ≤ c.c
    · rw [dT hl, cond_true, if_pos (by omega)]
      exact ⟨_, _, _, rfl, rfl⟩
    · rw [dF hl, cond_false, if_neg (by omega), idx_fld hc.1 (by omega), bnd, (h.reg hr).1, bnd]
      exact ⟨_, _, _, rfl, rfl, rfl, rfl⟩
  · rw [dT hk, cond_true, if_pos (.inl hk)]
    exact ⟨_, _, _, rfl, rfl⟩
theorem field_put (h : TopOk a pre f cells x c) (hop : c.op = 6) (hr : Reg x.regs c.a) (hb : Reg x.regs c.b) (hc : 0 ≤ c.c ∧ c.c < 4) : R1 (vm_step N ⟨pre ++ [f], cells, st, wh⟩ a) (stepC a pre f cells st wh x c) := by
  rw [step_red h, hop]
  simp only [Int.reduceEq, decide_true, decide_false, cond_true, cond_false]
  unfold vm_step_j5 vm_field vm_field_j1 vm_field_j3
  simp only [top_len, Int.toNat_natCast, top_set, hop, Int.reduceEq, decide_true, decide_false, cond_true, cond_false]
  have hv := h.reg hr
  rw [hv.1]
  simp only [bnd]
  unfold stepC
  simp only [hop, Int.reduceEq, if_true, if_false]
  by_cases hk : (regAt f.regs c.a).kind = 2
  · have hcell := idx_cell h.cok hv.2 hk
    rw [dF (by omega), cond_false, hcell.1]
    simp only [bnd]
    by_cases hl : ((cellAt cells (regAt f.regs c.a).n).length : Int) ≤ c.c
    · rw [dT hl, cond_true, if_pos (by omega)]
      exact ⟨_, _, _, rfl, rfl⟩
    · rw [dF hl, cond_false, if_neg (by omega), (h.reg hb).1, bnd, idx_fld hc.1 (by omega), bnd]
      exact ⟨_, _, _, rfl, rfl, rfl, rfl⟩
  · rw [dT hk, cond_true, if_pos (.inl hk)]
    exact ⟨_, _, _, rfl, rfl⟩
theorem sweep_top (g : LX.Frame) : sweepP ⟨pre ++ [g], cells, st, wh⟩ = ⟨pre.map (renF (reachS ⟨pre ++ [g], cells, st, wh⟩)) ++ [renF (reachS ⟨pre ++ [g], cells, st, wh⟩) g], (sweepP ⟨pre ++ [g], cells, st, wh⟩).cells, st, wh⟩ := by
  unfold sweepP; simp
theorem sweep_len {s : LX.State} (h : SwOk s) : (sweepP s).cells.length ≤ s.cells.length ∧ (sweepP s).cells.length ≤ 24 := by
  have h1 := h.reach.1.len
  have := h.cells.1
  unfold sweepP; simp; omega
theorem fresh_j1 (p2 : List LX.Frame) (g : LX.Frame) (cs : List (List Val)) (hl : p2.length ≤ 20) (hcs : cs.length ≤ 24) (hr : Reg g.regs.length c.a) (hb : 1 ≤ c.b ∧ c.b ≤ 4) : ∃ ok t, vm_fresh_j1 c (p2 ++ [g]) cs st wh = some (ok, t) ∧ match newP ⟨p2 ++ [g], cs, st, wh⟩ c with | none => ok = false | some u => ok = true ∧ t = u := by
  unfold vm_fresh_j1 newP
  simp only [top_len]
  by_cases h : cs.length = 24
  · rw [dT (by omega), cond_true, if_pos h]; exact ⟨_, _, rfl, rfl⟩
  · rw [dF (by omega), cond_false, if_neg h, gI (by omega) (by omega), top_idx, bnd, (regAt_of rfl hr).1, bnd, grd_t (by omega), grd_t (room_le (by simp; omega) (by decide)), Int.toNat_natCast, top_set]
    refine ⟨_, _, rfl, rfl, ?_⟩
    simp
theorem step5 (ha : CodeOk a) (hN : 100 ≤ N) (h : TopOk a pre f cells x c) (hop : c.op = 5) (hr : Reg x.regs c.a) (hb : 1 ≤ c.b ∧ c.b ≤ 4) : R1 (vm_step N ⟨pre ++ [f], cells, st, wh⟩ a) (stepC a pre f cells st wh x c) := by
  rw [step_red h, hop]
  simp only [Int.reduceEq, decide_true, decide_false, cond_true, cond_false]
  unfold vm_step_j5 vm_fresh
  simp only [top_len, Int.toNat_natCast, top_set, hop, Int.reduceEq, decide_true, decide_false, cond_true, cond_false]
  unfold stepC
  simp only [hop, Int.reduceEq, if_true, if_false]
  have hm := h.many
  have hsw := TopOk.sw ha h (st := st) (wh := wh) h.adv
  have hrr : Reg (adv f x).regs.length c.a := by have := h.adv.regs; rw [this]; exact hr
  have fin : ∀ s2 : LX.State, (∃ ok t, vm_fresh_j1 c s2.frames s2.cells s2.status s2.wher = some (ok, t) ∧ match newP s2 c with | none => ok = false | some u => ok = true ∧ t = u) →
      R1 ((vm_fresh_j1 c s2.frames s2.cells s2.status s2.wher).bind fun y => some ((⟨false, 0, false⟩ : VOut), y.1, y.2)) ((newP s2 c).map fun t => (t, none, false)) := by
    rintro s2 ⟨ok, t, h1, h2⟩
    rw [h1, bnd]
    cases e : newP s2 c with
    | none => rw [e] at h2; exact ⟨_, _, _, rfl, h2⟩
    | some u => rw [e] at h2; exact ⟨_, _, _, rfl, h2.1, h2.2, rfl⟩
  by_cases h24 : cells.length = 24
  · rw [dT (by omega), cond_true, if_pos h24]
    have e1 : ({ f with at_ := min (f.at_ + 1) ((x.code.length : Int) - 1) } : LX.Frame) = adv f x := rfl
    rw [e1, sweep_eq hN hsw, bnd]
    refine fin _ ?_
    rw [sweep_top]
    exact fresh_j1 _ _ _ (by simp; omega) (sweep_len hsw).2 (by simpa [renF] using hrr) hb
  · rw [dF (by omega), cond_false, if_neg h24]
    exact fin ⟨pre ++ [adv f x], cells, st, wh⟩ (fresh_j1 _ _ _ (by omega) h.cok.1 hrr hb)
theorem fill_loop {ρ : Type} {body : Int → Int → List Val → (List Val → Option ρ) → Option ρ} {K : List Val → Option ρ} {r : Int → Val} {P : Int → Prop}
    (hb : ∀ (i : Nat) k y nx, i < y.length → P k → body (i : Int) k y nx = nx (y.set i (r k))) : ∀ (l : List Int) (done rest : List Val), (∀ k ∈ l, P k) → l.length ≤ rest.length → eachI body K (done.length : Int) l (done ++ rest) = K (done ++ l.map r ++ rest.drop l.length)
  | [], done, rest, _, _ => by simp [eachI]
  | k :: l, done, z :: rest, h, hl => by
    rw [eachI_cons, hb done.length k (done ++ z :: rest) _ (by simp) (h k (by simp)), show (done ++ z :: rest).set done.length (r k) = (done ++ [r k]) ++ rest by simp, show ((done.length : Int) + 1) = ((done ++ [r k]).length : Nat) by simp, fill_loop hb l (done ++ [r k]) rest (fun q hq => h q (List.mem_cons_of_mem _ hq)) (by simpa using hl)]
    simp
  | k :: l, done, [], h, hl => by simp at hl
theorem step7 (ha : CodeOk a) (h : TopOk a pre f cells x c) (hop : c.op = 7) (hr : Reg x.regs c.a) {p : Proc} (hp : idx a c.b = some p) (hl : (c.args.length : Int) = p.params) (hargs : ∀ k ∈ c.args, Reg x.regs k) : R1 (vm_step N ⟨pre ++ [f], cells, st, wh⟩ a) (stepC a pre f cells st wh x c) := by
  rw [step_red h, hop]
  simp only [Int.reduceEq, decide_true, decide_false, cond_true, cond_false]
  unfold vm_step_j5 vm_call
  simp only [top_len, Int.toNat_natCast, top_set, hop, Int.reduceEq, decide_true, decide_false, cond_true, cond_false]
  unfold stepC
  simp only [hop, Int.reduceEq, if_true, if_false]
  have hm := h.many
  have hpr := ha.mem hp
  by_cases h10 : pre.length + 1 = 10
  · rw [dT (by simp; omega), cond_true, if_pos h10]; exact ⟨_, _, _, rfl, rfl⟩
  · rw [dF (by simp; omega), cond_false, if_neg h10, hp, bnd, grd_t (by omega)]
    have hfill := fill_loop (K := vm_call_k4 ⟨pre ++ [adv f x], cells, st, wh⟩ c a) (body := vm_call_b3 ⟨pre ++ [adv f x], cells, st, wh⟩) (r := regAt f.regs) (P := fun k => Reg x.regs k) (fun i k y nx hi hk => by
      unfold vm_call_b3
      simp only [top_len]
      rw [gI (by omega) (by omega), top_idx, bnd]
      show ((idx f.regs k).bind fun x33 => (idx y (i : Int)).bind fun x41 => nx (y.set ((i : Int)).toNat x33)) = _
      rw [(h.reg hk).1, bnd, idx_lt hi, bnd, Int.toNat_natCast]) c.args [] (List.replicate p.regs.toNat ⟨0, 0⟩) hargs (by simp; omega)
    have hfill' : eachI (vm_call_b3 ⟨pre ++ [adv f x], cells, st, wh⟩) (vm_call_k4 ⟨pre ++ [adv f x], cells, st, wh⟩ c a) 0 c.args (List.replicate p.regs.toNat ⟨0, 0⟩) = _ := hfill
    have e1 : ({ f with at_ := min (f.at_ + 1) ((x.code.length : Int) - 1) } : LX.Frame) = adv f x := rfl
    rw [e1, hfill']
    unfold vm_call_k4
    simp only
    rw [grd_t (room_le (by simp; omega) (by decide)), bnd]
    refine ⟨_, _, _, rfl, rfl, ?_, rfl⟩
    simp only [List.nil_append, List.drop_replicate, hp, Option.map_some, Option.getD_some]
    rw [show p.regs.toNat - c.args.length = (p.regs - (c.args.length : Int)).toNat by omega]
theorem step8 (ha : CodeOk a) (h : TopOk a pre f cells x c) (hop : c.op = 8) (hr : Reg x.regs c.a) : R1 (vm_step N ⟨pre ++ [f], cells, st, wh⟩ a) (stepC a pre f cells st wh x c) := by
  rw [step_red h, hop]
  simp only [Int.reduceEq, decide_true, decide_false, cond_true, cond_false]
  unfold vm_step_j5 vm_back
  simp only [top_len, Int.toNat_natCast, top_set, hop, Int.reduceEq, decide_true, decide_false, cond_true, cond_false]
  unfold stepC
  simp only [hop, Int.reduceEq, if_true, if_false]
  have hm := h.many
  rw [(h.reg hr).1, bnd, gI (by omega) (by omega)]
  rw [show sub? (pre ++ [({ f with at_ := min (f.at_ + 1) ((x.code.length : Int) - 1) } : LX.Frame)]) 0 (pre.length : Int) = some pre by unfold sub?; rw [if_pos (by simp; omega)]; simp [cut], bnd]
  rw [show (pre ++ [({ f with at_ := min (f.at_ + 1) ((x.code.length : Int) - 1) } : LX.Frame)]).take pre.length = pre by simp]
  rcases List.eq_nil_or_concat pre with hp | ⟨q, g, hp⟩
  · subst hp
    exact ⟨_, _, _, rfl, rfl, rfl, rfl⟩
  · rw [List.concat_eq_append] at hp
    subst hp
    have hto := h.to_
    rw [ahead_snoc] at hto
    simp only [List.length_append, List.length_cons, List.length_nil] at hm
    rw [dF (by simp; omega), cond_false, top_len, gI (by omega) (by omega), top_idx, bnd, (regAt_of rfl hto).1, bnd, Int.toNat_natCast, top_set, bnd]
    simp only [List.getLast?_append, List.getLast?_singleton, Option.some_or, List.dropLast_concat]
    exact ⟨_, _, _, rfl, rfl, rfl, rfl⟩
theorem step_rest (h : TopOk a pre f cells x c) (hop : (c.op = 9 ∨ c.op = 11 ∨ c.op = 13) ∧ Reg x.regs c.a ∨ c.op = 10 ∨ c.op = 12) : R1 (vm_step N ⟨pre ++ [f], cells, st, wh⟩ a) (stepC a pre f cells st wh x c) := by
  rw [step_red h]
  rcases hop with ⟨hop | hop | hop, hr⟩ | hop | hop
  · rw [hop]
    simp only [Int.reduceEq, decide_true, decide_false, cond_true, cond_false]
    unfold vm_step_j5
    simp only [top_len, Int.toNat_natCast, top_set, hop, Int.reduceEq, decide_true, decide_false, cond_true, cond_false]
    unfold stepC
    simp only [hop, Int.reduceEq, if_true, if_false]
    rw [(h.reg hr).1, bnd]
    by_cases hk : (regAt f.regs c.a).kind = 1
    · rw [dT hk, if_pos hk]; exact ⟨_, _, _, rfl, rfl, rfl, rfl⟩
    · rw [dF hk, if_neg hk]; exact ⟨_, _, _, rfl, rfl⟩
  · rw [hop]
    simp only [Int.reduceEq, decide_true, decide_false, cond_true, cond_false]
    unfold vm_step_j5
    simp only [top_len, Int.toNat_natCast, top_set, hop, Int.reduceEq, decide_true, decide_false, cond_true, cond_false]
    unfold stepC
    simp only [hop, Int.reduceEq, if_true, if_false]
    rw [(h.reg hr).1, bnd]
    by_cases hk : (regAt f.regs c.a).kind = 1
    · rw [dF (by omega), cond_false, if_pos hk]; exact ⟨_, _, _, rfl, rfl, rfl, rfl⟩
    · rw [dT hk, cond_true, if_neg hk]; exact ⟨_, _, _, rfl, rfl⟩
  · rw [hop]
    simp only [Int.reduceEq, decide_true, decide_false, cond_true, cond_false]
    unfold vm_step_j5
    simp only [top_len, Int.toNat_natCast, top_set, hop, Int.reduceEq, decide_true, decide_false, cond_true, cond_false]
    unfold stepC
    simp only [hop, Int.reduceEq, if_true, if_false]
    have hv := h.reg hr
    rw [hv.1, bnd]
    have hval := hv.2
    unfold ValOk at hval
    by_cases hk : (regAt f.regs c.a).kind ≠ 2 ∧ (regAt f.regs c.a).n = 0
    · rw [if_pos hk, show (decide ((regAt f.regs c.a).kind = 0) || (decide ((regAt f.regs c.a).kind = 1) && decide ((regAt f.regs c.a).n = 0))) = true by simp; omega, cond_true]
      exact ⟨_, _, _, rfl, rfl, rfl, rfl⟩
    · rw [if_neg hk, show (decide ((regAt f.regs c.a).kind = 0) || (decide ((regAt f.regs c.a).kind = 1) && decide ((regAt f.regs c.a).n = 0))) = false by rw [Bool.or_eq_false_iff, Bool.and_eq_false_iff]; simp only [decide_eq_false_iff_not]; omega, cond_false]
      exact ⟨_, _, _, rfl, rfl, rfl, rfl⟩
  · rw [hop]
    simp only [Int.reduceEq, decide_true, decide_false, cond_true, cond_false]
    unfold vm_step_j5
    simp only [top_len, Int.toNat_natCast, top_set, hop, Int.reduceEq, decide_true, decide_false, cond_true, cond_false]
    unfold stepC
    simp only [hop, Int.reduceEq, if_true, if_false]
    exact ⟨_, _, _, rfl, rfl, rfl, rfl⟩
  · rw [hop]
    simp only [Int.reduceEq, decide_true, decide_false, cond_true, cond_false]
    unfold vm_step_j5
    simp only [top_len, Int.toNat_natCast, top_set, hop, Int.reduceEq, decide_true, decide_false, cond_true, cond_false]
    unfold stepC
    simp only [hop, Int.reduceEq, if_true, if_false]
    exact ⟨_, _, _, rfl, rfl, rfl, rfl⟩
theorem vm_step_ok (ha : CodeOk a) (hN : 100 ≤ N) (h : TopOk a pre f cells x c) : R1 (vm_step N ⟨pre ++ [f], cells, st, wh⟩ a) (stepC a pre f cells st wh x c) := by
  rcases h.good with g | g | g | g | g | g | g | g | g | g
  · exact step1 h g.1 g.2.1
  · exact step2 h g.1 g.2.1 g.2.2
  · obtain ⟨g1, g2, g3, g4, n, g5, g6, g7⟩ := g
    exact step3 h g1 g2 g3 g4 g5 ⟨g6, g7⟩
  · obtain ⟨g1 | g1, g2, g3, g4⟩ := g
    · exact field_get h g1 g2 g3 g4
    · exact field_put h g1 g2 g3 g4
  · exact step5 ha hN h g.1 g.2.1 g.2.2
  · obtain ⟨g1, g2, ⟨p, g3, g4⟩, g5⟩ := g
    exact step7 ha h g1 g2 g3 g4 g5
  · obtain ⟨g1 | g1 | g1, g2⟩ := g
    · exact step8 ha h g1 g2
    · exact step_rest h (.inl ⟨.inl g1, g2⟩)
    · exact step_rest h (.inl ⟨.inr (.inl g1), g2⟩)
  · exact step_rest h (.inr (.inl g))
  · exact step_rest h (.inr (.inr g.1))
  · exact step_rest h (.inl ⟨.inr (.inr g.1), g.2.1⟩)
end
end Go.Proofs.YtfclkapelkhlpaaGreatDoor
namespace Go.Proofs.YtfclkapelkhlpaaGreatDoor
open Go Go.Proofs Go.LX
theorem ValOk.up {n m : Nat} {v : Val} (h : ValOk n v) (hm : n ≤ m) : ValOk m v := by unfold ValOk at *; omega
theorem FrOk.up {a : List Proc} {n m : Nat} {f : LX.Frame} {x : Proc} (h : FrOk a n f x) (hm : n ≤ m) : FrOk a m f x := ⟨h.proc, h.at_, h.regs, fun v hv => (h.vals v hv).up hm⟩
theorem framesOk_up {a : List Proc} {n m : Nat} (hm : n ≤ m) : ∀ {l : List LX.Frame} {t : Int}, FramesOk a n t l → FramesOk a m t l
  | [], _, _ => trivial
  | f :: l, t, h => by obtain ⟨⟨x, g⟩, h2, h3⟩ := h; exact ⟨⟨x, g.up hm⟩, h2, framesOk_up hm h3⟩
theorem ren_ok {n : Nat} {l : List Int} {v : Val} (h : ValOk n v) (hr : v.kind = 2 → v.n ∈ l) : ValOk l.length (ren l v) := by
  unfold ren
  by_cases hk : v.kind = 2
  · rw [if_pos hk]
    have := List.idxOf_lt_length_of_mem (hr hk)
    unfold ValOk
    simp only
    omega
  · rw [if_neg hk]; unfold ValOk at *; omega
theorem FrOk.ren {a : List Proc} {n : Nat} {l : List Int} {f : LX.Frame} {x : Proc} (h : FrOk a n f x) (hr : RefsIn f.regs l) : FrOk a l.length (renF l f) x where
  proc := h.proc
  at_ := h.at_
  regs := by unfold renF; simpa using h.regs
  vals v hv := by
    unfold renF at hv
    simp only [List.mem_map] at hv
    obtain ⟨w, hw, rfl⟩ := hv
    exact ren_ok (h.vals w hw) (hr w hw)
theorem framesOk_ren {a : List Proc} {n : Nat} {r : List Int} : ∀ {l : List LX.Frame} {t : Int}, FramesOk a n t l → (∀ f ∈ l, RefsIn f.regs r) → FramesOk a r.length t (l.map (renF r))
  | [], _, _, _ => trivial
  | f :: l, t, h, hr => by
    obtain ⟨⟨x, g⟩, h2, h3⟩ := h
    refine ⟨⟨x, g.ren (hr f (by simp))⟩, h2, ?_⟩
    have := framesOk_ren h3 (fun k hk => hr k (List.mem_cons_of_mem _ hk))
    simpa [renF] using this
theorem sweep_cells {s : LX.State} (h : SwOk s) : CellsOk (sweepP s).cells := by
  have hr := h.reach
  have hl := hr.1.len
  have hn := h.cells.1
  refine ⟨by simp [sweepP]; omega, fun c hc => ?_⟩
  unfold sweepP at hc ⊢
  simp only [List.mem_map, List.length_map] at hc ⊢
  obtain ⟨k, hk, rfl⟩ := hc
  have hk2 := h.cells.at (hr.1.2 k hk)
  refine ⟨by simpa using hk2.1, fun v hv => ?_⟩
  obtain ⟨w, hw, rfl⟩ := List.mem_map.1 hv
  exact ren_ok (hk2.2 w hw) (hr.2.2 k hk w hw)
theorem sweep_ok {a : List Proc} (ha : CodeOk a) {s : LX.State} (h : StOk a s) : StOk a (sweepP s) where
  status := h.status
  wher := h.wher
  stay := h.stay
  ended := by rw [show (sweepP s).status = s.status from rfl, h.ended]; simp [sweepP]
  many := by simpa [sweepP] using h.many
  cells := sweep_cells (h.sw ha)
  frames := by
    have hr := (h.sw ha).reach
    have := framesOk_ren h.frames (roots_in hr.2.1)
    simpa [sweepP] using this
theorem set_vals {n : Nat} {r : List Val} {i : Nat} {v : Val} (h : ∀ w ∈ r, ValOk n w) (hv : ValOk n v) : ∀ w ∈ r.set i v, ValOk n w := fun w hw => by
  rcases List.mem_or_eq_of_mem_set hw with hw | rfl
  · exact h w hw
  · exact hv
section
variable {a : List Proc} {pre : List LX.Frame} {f : LX.Frame} {cells : List (List Val)} {wh : Int} {x : Proc} {c : Ins} {N : Nat}
theorem TopOk.st (h : TopOk a pre f cells x c) {g : LX.Frame} {y : Proc} {cs : List (List Val)} {s w : Int} (hg : FrOk a cs.length g y) (hto : g.to_ = f.to_) (hc : CellsOk cs) (hl : cells.length ≤ cs.length) (hs : (s = 0 ∧ w = 0) ∨ (s = 3 ∧ -1000000000 ≤ w ∧ w ≤ 1000000000)) : StOk a ⟨pre ++ [g], cs, s, w⟩ where
  status := by simp only; omega
  wher := by simp only; omega
  stay := by simp only; omega
  ended := by simp; omega
  many := by have := h.many; simp; omega
  cells := hc
  frames := framesOk_snoc.2 ⟨framesOk_up hl h.chain, ⟨y, hg⟩, by rw [hto]; exact h.to_⟩
theorem opP_ok {n : Nat} {k : Int} {b c v : Val} (hk : 1 ≤ k ∧ k ≤ 5) (h : opP k b c = some v) : ValOk n v := by
  unfold opP at h
  split at h
  · cases h; split <;> (unfold ValOk; simp)
  split at h
  · cases h
  split at h
  · cases h; split <;> (unfold ValOk; simp)
  simp only at h
  generalize (if k = 1 then b.n + c.n else if k = 2 then b.n - c.n else b.n * c.n) = z at h
  split at h
  · rename_i hz; cases h; exact .inr (.inl ⟨rfl, hz.1, hz.2⟩)
  · cases h
theorem FrOk.put {n : Nat} {f : LX.Frame} {x : Proc} (h : FrOk a n f x) {i : Nat} {v : Val} (hv : ValOk n v) : FrOk a n { f with regs := f.regs.set i v } x := ⟨h.proc, h.at_, by simpa using h.regs, set_vals h.vals hv⟩
theorem FrOk.jump {n : Nat} {f : LX.Frame} {x : Proc} (h : FrOk a n f x) {b : Int} (hb : 0 ≤ b ∧ b < x.code.length) : FrOk a n { f with at_ := b } x := ⟨h.proc, hb, h.regs, h.vals⟩
theorem newP_ok {s t : LX.State} {g : LX.Frame} (h : newP ⟨pre ++ [g], cells, 0, wh⟩ c = some t) (hs : StOk a ⟨pre ++ [g], cells, 0, wh⟩) (hb : 1 ≤ c.b ∧ c.b ≤ 4) : StOk a t ∧ t.status = 0 := by
  unfold newP at h
  split at h
  · cases h
  rename_i h24
  simp only [List.dropLast_concat, List.getLast?_append, List.getLast?_singleton, Option.some_or, Option.map_some, Option.toList_some] at h h24
  cases h
  obtain ⟨h1, ⟨x, h2⟩, h3⟩ := framesOk_snoc.1 hs.frames
  have hc := hs.cells
  simp only at h1 h2 h3 hc
  have hle : cells.length ≤ (cells ++ [List.replicate c.b.toNat (⟨0, 0⟩ : Val)]).length := by simp
  refine ⟨⟨hs.status, hs.wher, hs.stay, by simp, by simpa using hs.many, ⟨?_, ?_⟩, framesOk_snoc.2 ⟨framesOk_up hle h1, ⟨x, (h2.up hle).put ?_⟩, h3⟩⟩, rfl⟩
  · have := hc.1; simp; omega
  · intro d hd
    rcases List.mem_append.1 hd with hd | hd
    · have := hc.2 d hd
      exact ⟨this.1, fun v hv => (this.2 v hv).up hle⟩
    · simp at hd; subst hd
      refine ⟨by simp; omega, fun v hv => ?_⟩
      have := List.eq_of_mem_replicate hv
      subst this
      unfold ValOk; simp
  · unfold ValOk; simp; try omega
theorem step_keeps (ha : CodeOk a) (h : TopOk a pre f cells x c) (hw : wh = 0) {t : LX.State} {said : Option Int} {p : Bool} (hs : stepC a pre f cells 0 wh x c = some (t, said, p)) :
    StOk a t ∧ (t.status = 0 ∨ t.status = 1 ∧ p = false ∨ t.status = 3 ∧ p = true) ∧ (said.isSome → t.status = 0 ∧ c.op = 9) := by
  subst hw
  have hadv := h.adv
  have hput : ∀ {v : Val}, ValOk cells.length v → StOk a ⟨pre ++ [{ adv f x with regs := f.regs.set c.a.toNat v }], cells, 0, 0⟩ := fun hv => h.st (hadv.put hv) rfl h.cok (Nat.le_refl _) (.inl ⟨rfl, rfl⟩)
  have hstay : StOk a ⟨pre ++ [adv f x], cells, 0, 0⟩ := h.st hadv rfl h.cok (Nat.le_refl _) (.inl ⟨rfl, rfl⟩)
  have hjump : (0 ≤ c.b ∧ c.b < x.code.length) → StOk a ⟨pre ++ [{ adv f x with at_ := c.b }], cells, 0, 0⟩ := fun hb => h.st (hadv.jump hb) rfl h.cok (Nat.le_refl _) (.inl ⟨rfl, rfl⟩)
  unfold stepC at hs
  rcases h.good with g | g | g | g | g | g | g | g | g | g
  · obtain ⟨hop, hr, hb⟩ := g
    simp only [hop, Int.reduceEq, if_true, if_false] at hs
    cases hs
    exact ⟨hput (.inr (.inl ⟨rfl, hb.1, hb.2⟩)), .inl rfl, by simp⟩
  · obtain ⟨hop, hr, hb⟩ := g
    simp only [hop, Int.reduceEq, if_true, if_false] at hs
    cases hs
    exact ⟨hput (h.reg hb).2, .inl rfl, by simp⟩
  · obtain ⟨hop, hr, hb, hc, n, hn, hn1⟩ := g
    simp only [hop, hn, Int.reduceEq, if_true, if_false, List.headD_cons] at hs
    obtain ⟨v, hv, hs⟩ := Option.map_eq_some_iff.1 hs
    cases hs
    exact ⟨hput (opP_ok hn1 hv), .inl rfl, by simp⟩
  · obtain ⟨hop, hr, hb, hc⟩ := g
    rcases hop with hop | hop
    · simp only [hop, Int.reduceEq, if_true, if_false] at hs
      split at hs
      · cases hs
      · rename_i hbad
        cases hs
        have hk : (regAt f.regs c.b).kind = 2 := by omega
        have hv := (h.reg hb).2
        have hcell := h.cok.at (hv.ref hk)
        exact ⟨hput (hcell.2 _ (regAt_of rfl ⟨hc.1, by omega⟩).2), .inl rfl, by simp⟩
    · simp only [hop, Int.reduceEq, if_true, if_false] at hs
      split at hs
      · cases hs
      · rename_i hbad
        cases hs
        have hk : (regAt f.regs c.a).kind = 2 := by omega
        have hv := (h.reg hr).2
        have hcell := h.cok.at (hv.ref hk)
        refine ⟨h.st (by simpa using hadv) rfl ⟨by simpa using h.cok.1, fun d hd => ?_⟩ (by simp) (.inl ⟨rfl, rfl⟩), .inl rfl, by simp⟩
        rw [List.length_set]
        rcases List.mem_or_eq_of_mem_set hd with hd | rfl
        · exact h.cok.2 d hd
        · exact ⟨by simpa using hcell.1, set_vals hcell.2 (h.reg hb).2⟩
  · obtain ⟨hop, hr, hb⟩ := g
    simp only [hop, Int.reduceEq, if_true, if_false] at hs
    obtain ⟨u, hu, hs⟩ := Option.map_eq_some_iff.1 hs
    cases hs
    split at hu
    · have hsw := sweep_ok ha hstay
      rw [sweep_top] at hu hsw
      have := newP_ok (s := t) hu hsw hb
      exact ⟨this.1, .inl this.2, by simp⟩
    · have := newP_ok (s := t) hu hstay hb
      exact ⟨this.1, .inl this.2, by simp⟩
  · obtain ⟨hop, hr, ⟨p1, hp, hl⟩, hargs⟩ := g
    simp only [hop, Int.reduceEq, if_true, if_false] at hs
    split at hs
    · cases hs
    · rename_i h10
      cases hs
      have hpr := ha.mem hp
      have hm := h.many
      refine ⟨⟨by simp, by simp, by simp, by simp, by simp; omega, h.cok, framesOk_snoc.2 ⟨hstay.frames, ⟨p1, ⟨hp, ?_, ?_, ?_⟩⟩, ?_⟩⟩, .inl rfl, by simp⟩
      · have := hpr.2.2.2; unfold CodeLen at this; simp only; omega
      · simp only [hp, Option.map_some, Option.getD_some, List.length_append, List.length_map, List.length_replicate]; omega
      · intro v hv
        rcases List.mem_append.1 hv with hv | hv
        · obtain ⟨k, hk, rfl⟩ := List.mem_map.1 hv
          exact (h.reg (hargs k hk)).2
        · have := List.eq_of_mem_replicate hv
          subst this; unfold ValOk; simp
      · simp only [List.getLast?_append, List.getLast?_singleton, Option.some_or]
        have h1 := hadv.regs
        rw [h1]; exact hr
  · obtain ⟨hop, hr⟩ := g
    rcases hop with hop | hop | hop
    · simp only [hop, Int.reduceEq, if_true, if_false] at hs
      rcases List.eq_nil_or_concat pre with hp | ⟨q, g, hp⟩
      · subst hp
        simp only [List.getLast?_nil] at hs
        cases hs
        exact ⟨⟨by simp, by simp, by simp, by simp, by simp, h.cok, trivial⟩, .inr (.inl ⟨rfl, rfl⟩), by simp⟩
      · rw [List.concat_eq_append] at hp
        subst hp
        simp only [List.getLast?_append, List.getLast?_singleton, Option.some_or, List.dropLast_concat] at hs
        cases hs
        obtain ⟨c1, ⟨y, c2⟩, c3⟩ := framesOk_snoc.1 h.chain
        have hm := h.many
        simp only [List.length_append, List.length_cons, List.length_nil] at hm
        exact ⟨⟨by simp, by simp, by simp, by simp, by simp; omega, h.cok, framesOk_snoc.2 ⟨c1, ⟨y, c2.put (h.reg hr).2⟩, c3⟩⟩, .inl rfl, by simp⟩
    · simp only [hop, Int.reduceEq, if_true, if_false] at hs
      split at hs
      · cases hs; exact ⟨hstay, .inl rfl, fun _ => ⟨rfl, hop⟩⟩
      · cases hs
    · simp only [hop, Int.reduceEq, if_true, if_false] at hs
      split at hs
      · rename_i hk
        cases hs
        exact ⟨h.st hadv rfl h.cok (Nat.le_refl _) (.inr ⟨rfl, (h.reg hr).2.int hk⟩), .inr (.inr ⟨rfl, rfl⟩), by simp⟩
      · cases hs
  · simp only [g, Int.reduceEq, if_true, if_false] at hs
    cases hs; exact ⟨hstay, .inl rfl, by simp⟩
  · obtain ⟨hop, hb⟩ := g
    simp only [hop, Int.reduceEq, if_true, if_false] at hs
    cases hs; exact ⟨hjump hb, .inl rfl, by simp⟩
  · obtain ⟨hop, hr, hb⟩ := g
    simp only [hop, Int.reduceEq, if_true, if_false] at hs
    cases hs
    split
    · exact ⟨hjump hb, .inl rfl, by simp⟩
    · exact ⟨hstay, .inl rfl, by simp⟩
end
end Go.Proofs.YtfclkapelkhlpaaGreatDoor
namespace Go.Proofs.YtfclkapelkhlpaaGreatDoor
open Go Go.Proofs Go.LX
def insOf (a : List Proc) (f : LX.Frame) : Option (Proc × Ins) := (idx a f.proc).bind fun x => (idx x.code f.at_).map fun c => (x, c)
def stepP (a : List Proc) (s : LX.State) : Option (LX.State × Option Int × Bool) :=
  s.frames.getLast?.bind fun f => (insOf a f).bind fun q => stepC a s.frames.dropLast f s.cells s.status s.wher q.1 q.2
def opTop (a : List Proc) (s : LX.State) : Int := ((s.frames.getLast?.bind fun f => insOf a f).map fun q => q.2.op).getD 0
def runP (a : List Proc) : Nat → List Int → Nat → LX.State → LX.State × List Int × Nat
  | 0, said, n, s => (s, said, n)
  | m + 1, said, n, s =>
    if s.status ≠ 0 then (s, said, n) else
    if said.length = 40 ∧ opTop a s = 9 then (s, said, n) else
    match stepP a s with
    | none => ({ s with status := 2 }, said, n + 1)
    | some (t, o, p) => if p then (t, said ++ o.toList, n + 1) else runP a m (said ++ o.toList) (n + 1) t
theorem ready_top {a : List Proc} (ha : CodeOk a) {s : LX.State} (h : StOk a s) (hs : s.status = 0) : ∃ pre f x c, s = ⟨pre ++ [f], s.cells, 0, 0⟩ ∧ TopOk a pre f s.cells x c ∧ stepP a s = stepC a pre f s.cells 0 0 x c ∧ opTop a s = c.op := by
  obtain ⟨fr, cells, st, wh⟩ := s
  simp only at hs
  subst hs
  have hw : wh = 0 := h.stay (by simp)
  subst hw
  rcases List.eq_nil_or_concat fr with hp | ⟨pre, f, hp⟩
  · have := h.ended.2 hp; simp at this
  · rw [List.concat_eq_append] at hp
    subst hp
    obtain ⟨x, c, g⟩ := top_ok ha h
    refine ⟨pre, f, x, c, rfl, g, ?_, ?_⟩
    · unfold stepP insOf
      simp only [List.getLast?_append, List.getLast?_singleton, Option.some_or, List.dropLast_concat, bnd, g.fr.proc, g.ins, Option.map_some]
    · unfold opTop insOf
      simp only [List.getLast?_append, List.getLast?_singleton, Option.some_or, bnd, g.fr.proc, g.ins, Option.map_some, Option.getD_some]
theorem vm_step_P {a : List Proc} (ha : CodeOk a) {s : LX.State} (h : StOk a s) (hs : s.status = 0) {N : Nat} (hN : 100 ≤ N) : R1 (vm_step N s a) (stepP a s) := by
  obtain ⟨pre, f, x, c, h1, h2, h3, -⟩ := ready_top ha h hs
  rw [h3]
  generalize s.cells = cells at *
  subst h1
  exact vm_step_ok ha hN h2
theorem stepP_keeps {a : List Proc} (ha : CodeOk a) {s : LX.State} (h : StOk a s) (hs : s.status = 0) {t : LX.State} {o : Option Int} {p : Bool} (hq : stepP a s = some (t, o, p)) :
    StOk a t ∧ (t.status = 0 ∨ t.status = 1 ∧ p = false ∨ t.status = 3 ∧ p = true) ∧ (o.isSome → t.status = 0 ∧ opTop a s = 9) := by
  obtain ⟨pre, f, x, c, h1, h2, h3, h4⟩ := ready_top ha h hs
  rw [h3] at hq
  rw [h4]
  exact step_keeps ha h2 rfl hq
theorem top_reads {a : List Proc} (ha : CodeOk a) {s : LX.State} (h : StOk a s) (hs : s.status = 0) : (s.frames.length ≤ 10 ∧ 1 ≤ s.frames.length) ∧ ∃ f x c, idx s.frames ((s.frames.length : Int) - 1) = some f ∧ idx a f.proc = some x ∧ idx x.code f.at_ = some c ∧ c.op = opTop a s := by
  obtain ⟨pre, f, x, c, h1, h2, h3, h4⟩ := ready_top ha h hs
  refine ⟨⟨h.many, by rw [h1]; simp⟩, f, x, c, ?_, h2.fr.proc, h2.ins, h4.symm⟩
  have : s.frames = pre ++ [f] := by rw [h1]
  rw [this, top_len, top_idx]
theorem fail_ok {a : List Proc} {s : LX.State} (h : StOk a s) (hs : s.status = 0) : StOk a { s with status := 2 } := by
  have hw : s.wher = 0 := h.stay (by omega)
  refine ⟨by simp, h.wher, fun _ => hw, ?_, h.many, h.cells, h.frames⟩
  constructor
  · intro e; simp at e
  · intro e
    have := h.ended.2 e
    omega
theorem run_loop {a : List Proc} (ha : CodeOk a) {N : Nat} (hN : 100 ≤ N) (c : Int) : ∀ (m M : Nat) (said : List Int) (n : Nat) (s : LX.State), StOk a s → said.length ≤ 40 → c = (n : Int) + m → c ≤ 2000 → m < M →
    again (vm_Run_b17 N c a) M (said, (n : Int), s.frames, s.cells, s.status, s.wher) = some ((runP a m said n s).1, (runP a m said n s).2.1, ((runP a m said n s).2.2 : Int), 0)
  | m, 0, said, n, s, h, hl, hc, hb, hM => by omega
  | 0, M + 1, said, n, s, h, hl, hc, hb, hM => by
    rw [again_s]
    unfold vm_Run_b17 vm_Run_j9 runP
    simp only
    rw [show (decide ((n : Int) < c) && decide ((s.status : Int) = 0)) = false by rw [dF (by omega)]; rfl, cond_false]
  | m + 1, M + 1, said, n, s, h, hl, hc, hb, hM => by
    rw [again_s]
    have ih := run_loop ha hN c m M
    generalize again (vm_Run_b17 N c a) M = K at ih ⊢
    unfold vm_Run_b17 runP
    simp only
    by_cases hs : s.status = 0
    · rw [dT (by omega), dT hs, Bool.true_and, cond_true, if_neg (by omega)]
      obtain ⟨hfr, f, x, i, r1, r2, r3, r4⟩ := top_reads ha h hs
      rw [gI (by omega) (by omega), r1, bnd]
      have go : vm_Run_j15 N said n s.frames s.cells s.status s.wher a K false = some (match stepP a s with
          | none => ({ s with status := 2 }, said, ((n + 1 : Nat) : Int), 0)
          | some (t, o, p) => if p then (t, said ++ o.toList, ((n + 1 : Nat) : Int), 0) else ((runP a m (said ++ o.toList) (n + 1) t).1, (runP a m (said ++ o.toList) (n + 1) t).2.1, ((runP a m (said ++ o.toList) (n + 1) t).2.2 : Int), 0)) ∨ (said.length = 40 ∧ opTop a s = 9) := by
        by_cases hstop : said.length = 40 ∧ opTop a s = 9
        · exact .inr hstop
        left
        unfold vm_Run_j15
        rw [cond_false, show (⟨s.frames, s.cells, s.status, s.wher⟩ : LX.State) = s from rfl, copy_eq (h.small ha), bnd]
        obtain ⟨o, ok, s', e1, e2⟩ := vm_step_P ha h hs hN
        rw [e1, bnd, gI (by omega) (by omega)]
        cases eq : stepP a s with
        | none =>
          rw [eq] at e2
          simp only at e2
          subst e2
          simp only [Bool.not_false, cond_true]
          unfold vm_Run_j9
          push_cast; rfl
        | some q =>
          obtain ⟨t, o2, p⟩ := q
          rw [eq] at e2
          obtain ⟨rfl, rfl, rfl⟩ := e2
          have hk := stepP_keeps ha h hs eq
          simp only [Bool.not_true, cond_false]
          have fin : ∀ l, l = said ++ o2.toList → l.length ≤ 40 → vm_Run_j16 (⟨o2.isSome, o2.getD 0, p⟩, true, s') n K l = some (if p then (s', said ++ o2.toList, ((n + 1 : Nat) : Int), 0) else ((runP a m (said ++ o2.toList) (n + 1) s').1, (runP a m (said ++ o2.toList) (n + 1) s').2.1, ((runP a m (said ++ o2.toList) (n + 1) s').2.2 : Int), 0)) := by
            intro l hl1 hl2
            subst hl1
            unfold vm_Run_j16 vm_Run_j9
            simp only
            cases p with
            | true => rw [cond_true, if_pos rfl]; push_cast; rfl
            | false =>
              rw [cond_false, if_neg (by simp)]
              have := ih (said ++ o2.toList) (n + 1) s' hk.1 hl2 (by push_cast; omega) hb (by omega)
              rw [← this]; push_cast; rfl
          cases o2 with
          | none =>
            simp only [Option.isSome_none, cond_false]
            exact fin said (by simp) hl
          | some z =>
            have h9 := (hk.2.2 rfl).2
            simp only [Option.isSome_some, cond_true]
            rw [grd_t (room_le (by simp; omega) (by decide))]
            exact fin (said ++ [z]) (by simp) (by simp; omega)
      by_cases h40 : said.length = 40
      · rw [dT (by omega), cond_true, r2, bnd, r3, bnd, r4]
        by_cases h9 : opTop a s = 9
        · rw [if_pos ⟨h40, h9⟩, dT h9]; rfl
        · rw [if_neg (fun e => h9 e.2), dF h9]
          rcases go with go | go
          · rw [go]; cases stepP a s with
            | none => rfl
            | some q => obtain ⟨t, o, p⟩ := q; cases p <;> rfl
          · exact absurd go.2 h9
      · rw [dF (by omega), cond_false, if_neg (fun e => h40 e.1)]
        rcases go with go | go
        · rw [go]; cases stepP a s with
          | none => rfl
          | some q => obtain ⟨t, o, p⟩ := q; cases p <;> rfl
        · exact absurd go.1 h40
    · rw [dF hs, Bool.and_false, cond_false, if_pos hs]; rfl
theorem run_keeps {a : List Proc} (ha : CodeOk a) : ∀ (m : Nat) (said : List Int) (n : Nat) (s : LX.State), StOk a s → said.length ≤ 40 →
    StOk a (runP a m said n s).1 ∧ (runP a m said n s).2.1.length ≤ 40 ∧ n ≤ (runP a m said n s).2.2 ∧ (runP a m said n s).2.2 ≤ n + m ∧ said <+: (runP a m said n s).2.1 ∧ (runP a m said n s).2.1.length ≤ said.length + ((runP a m said n s).2.2 - n) ∧ ((runP a m said n s).2.2 = n → (runP a m said n s).1 = s)
  | 0, said, n, s, h, hl => ⟨h, hl, Nat.le_refl _, Nat.le_refl _, List.prefix_refl _, by simp [runP], fun _ => rfl⟩
  | m + 1, said, n, s, h, hl => by
    unfold runP
    by_cases hs : s.status = 0
    · rw [if_neg (by omega)]
      by_cases h40 : said.length = 40 ∧ opTop a s = 9
      · rw [if_pos h40]; exact ⟨h, hl, Nat.le_refl _, by simp, List.prefix_refl _, by simp, fun _ => rfl⟩
      · rw [if_neg h40]
        cases eq : stepP a s with
        | none => exact ⟨fail_ok h hs, hl, by simp, by simp, List.prefix_refl _, by simp, fun e => by simp at e⟩
        | some q =>
          obtain ⟨t, o, p⟩ := q
          have hk := stepP_keeps ha h hs eq
          have hlen : (said ++ o.toList).length ≤ 40 := by
            cases o with
            | none => simpa using hl
            | some z => have h9 := (hk.2.2 rfl).2; simp; omega
          have ho : o.toList.length ≤ 1 := by cases o <;> simp
          simp only
          split
          · exact ⟨hk.1, hlen, by simp, by simp, List.prefix_append _ _, by show (said ++ o.toList).length ≤ said.length + (n + 1 - n); rw [List.length_append]; omega, fun e => by simp at e⟩
          · obtain ⟨i1, i2, i3, i4, i5, i6, i7⟩ := run_keeps ha m (said ++ o.toList) (n + 1) t hk.1 hlen
            refine ⟨i1, i2, by omega, by omega, (List.prefix_append _ _).trans i5, ?_, fun e => by omega⟩
            rw [List.length_append] at i6; omega
    · rw [if_pos hs]; exact ⟨h, hl, Nat.le_refl _, by simp, List.prefix_refl _, by simp, fun _ => rfl⟩
theorem vm_Run_eq (a : List Proc) (s : LX.State) (c : Int) {N : Nat} (hN : 3000 ≤ N) : vm_Run N a s c = some (if chk a ≠ 0 then (⟨[], [], 0, 0⟩, [], 0, chk a) else if ckS a s ≠ 0 then (⟨[], [], 0, 0⟩, [], 0, ckS a s) else if c < 0 ∨ 2000 < c then (⟨[], [], 0, 0⟩, [], 0, 3) else if s.status ≠ 0 then (⟨[], [], 0, 0⟩, [], 0, 7) else ((runP a c.toNat [] 0 s).1, (runP a c.toNat [] 0 s).2.1, ((runP a c.toNat [] 0 s).2.2 : Int), 0)) := by
  unfold vm_Run
  rw [vm_Check_eq, bnd]
  by_cases h1 : chk a = 0
  · rw [if_neg (by omega), if_neg (by omega)]
    by_cases h2 : ckS a s = 0
    · rw [dF (by omega), cond_false, if_neg (by omega)]
      by_cases h3 : c < 0 ∨ 2000 < c
      · rw [show (decide ((c : Int) < 0) || decide ((2000 : Int) < c)) = true by rw [Bool.or_eq_true]; simp only [decide_eq_true_eq]; exact h3, cond_true, if_pos h3]
      · rw [show (decide ((c : Int) < 0) || decide ((2000 : Int) < c)) = false by rw [Bool.or_eq_false_iff]; simp only [decide_eq_false_iff_not]; omega, cond_false, if_neg h3]
        by_cases h4 : s.status = 0
        · rw [dF (by omega), cond_false, if_neg (by omega)]
          have ha := chk_code h1
          have hs := ckS_ok.1 h2
          rw [copy_eq (hs.small ha), bnd]
          have := run_loop ha (N := N) (by omega) c c.toNat N [] 0 s hs (by simp) (by omega) (by omega) (by omega)
          exact this
        · rw [dT h4, cond_true, if_pos h4]
    · rw [dT h2, cond_true, if_pos h2]
  · rw [if_pos h1, if_pos h1, dT h1, cond_true]
end Go.Proofs.YtfclkapelkhlpaaGreatDoor
namespace Go.Proofs.YtfclkapelkhlpaaGreatDoor
open Go Go.Proofs Go.LX
theorem NN_big : 3000 ≤ NN := by decide
theorem vmKeeps (a : List Proc) (b : LX.State) (c : Int) : ∃ N, wandererlaw_VmKeeps N a b c = some true := by
  refine ⟨NN, ?_⟩
  unfold wandererlaw_VmKeeps
  rw [vm_Run_eq a b c NN_big, bnd, ran_ok, bnd, bnd]
  by_cases h1 : chk a = 0
  · rw [if_neg (by omega)]
    by_cases h2 : ckS a b = 0
    · rw [if_neg (by omega)]
      by_cases h3 : c < 0 ∨ 2000 < c
      · rw [if_pos h3]; rfl
      · rw [if_neg h3]
        by_cases h4 : b.status = 0
        · rw [if_neg (by omega)]
          have ha := chk_code h1
          obtain ⟨k1, k2, k3, k4, k5, k6, k7⟩ := run_keeps ha c.toNat [] 0 b (ckS_ok.1 h2) (by simp)
          generalize runP a c.toNat [] 0 b = q at *
          obtain ⟨t, said, n⟩ := q
          simp only at *
          rw [show ((!true) || decide ((0 : Int) ≠ 0)) = false by simp, cond_false, vm_Check_eq, if_neg (by omega), ckS_ok.2 k1, bnd]
          rw [show ((((decide ((0 : Int) ≠ 0) || decide (((n : Int) : Int) < 0)) || decide ((c : Int) < (n : Int))) || decide (((n : Int) : Int) < (said.length : Int))) || decide ((40 : Int) < (said.length : Int))) = false by
            simp only [Bool.or_eq_false_iff, decide_eq_false_iff_not]; simp only [List.length_nil] at k6; omega, cond_false]
          have fin : wandererlaw_VmKeeps_j2 NN (t, said, (n : Int), 0) a c false = some true := by
            unfold wandererlaw_VmKeeps_j2
            rw [cond_false]
            by_cases h5 : t.status = 0
            · rw [dF (by simpa using h5), cond_false]
            · rw [dT h5, cond_true, vm_Run_eq a t c NN_big, bnd, if_neg (by omega), if_neg (by rw [ckS_ok.2 k1]; omega), if_neg h3, if_pos h5]; rfl
          by_cases h0 : n = 0
          · rw [dT (by omega), cond_true, eqState, bnd, dT (k7 h0), Bool.not_true]; exact fin
          · rw [dF (by omega), cond_false]; exact fin
        · rw [if_pos h4]; rfl
    · rw [if_pos h2]
      simp only
      rw [show ((!true) || decide ((ckS a b : Int) ≠ 0)) = true by simp [h2], cond_true]
  · rw [if_pos h1]
    simp only
    rw [show ((!true) || decide ((chk a : Int) ≠ 0)) = true by simp [h1], cond_true]
end Go.Proofs.YtfclkapelkhlpaaGreatDoor
