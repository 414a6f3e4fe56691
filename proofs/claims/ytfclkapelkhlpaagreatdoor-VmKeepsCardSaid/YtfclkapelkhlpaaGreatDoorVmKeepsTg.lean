/-
  What the law VmKeeps needs of our own library and of the walks, no more.
-/
import Derived.Test.YtfclkapelkhlpaaGreatDoorVmKeepsTf
set_option linter.unusedSimpArgs false
set_option linter.unusedVariables false
set_option maxRecDepth 10000
namespace Go.Proofs.YtfclkapelkhlpaaGreatDoor
open Go Go.Proofs Go.LX
def ren (l : List Int) (v : Val) : Val := if v.kind = 2 then ⟨v.kind, (l.idxOf v.n : Nat)⟩ else v
def GV (l : List Int) (f : LX.Frame) : LX.Frame := { f with regs := f.regs.map (ren l) }
def roots (fr : List LX.Frame) : List Val := fr.flatMap (·.regs)
def vg (s : LX.State) : List Int := Ci s.cells (roots s.frames)
def pY (s : LX.State) : LX.State := ⟨s.frames.map (GV (vg s)), (vg s).map (fun k => (cellAt s.cells k).map (ren (vg s))), s.status, s.aV⟩
structure GX (s : LX.State) : Prop where
  small : Small s
  cells : ma s.cells
  vals : ∀ f ∈ s.frames, ∀ v ∈ f.regs, gT s.cells.length v
theorem uQ.sw {a : List cz} {s : LX.State} (h : uQ a s) (ha : nT a) : GX s where
  small := h.small ha
  cells := h.cells
  vals f hf := by obtain ⟨x, g⟩ := sN h.frames f hf; exact g.vals
theorem GX.roots {s : LX.State} (h : GX s) : ∀ v ∈ roots s.frames, gT s.cells.length v := by
  intro v hv
  unfold YtfclkapelkhlpaaGreatDoor.roots at hv
  obtain ⟨f, hf, hv⟩ := List.mem_flatMap.1 hv
  exact h.vals f hf v hv
theorem PR (fr : List LX.Frame) (h : ∀ f ∈ fr, f.regs.length ≤ 40) : (roots fr).length ≤ 40 * fr.length := by
  induction fr with
  | nil => simp [roots]
  | cons f l ih =>
    have := h f (by simp)
    have := ih (fun g hg => h g (List.mem_cons_of_mem _ hg))
    unfold roots at *
    rw [List.flatMap_cons, List.length_append, List.length_cons]; omega
theorem GX.aaq {s : LX.State} (h : GX s) : (YtfclkapelkhlpaaGreatDoor.roots s.frames).length ≤ 400 := by
  have := PR s.frames h.small.regs
  have := h.small.frames
  omega
theorem GX.reach {s : LX.State} (h : GX s) : oP s.cells.length (vg s) ∧ nU (YtfclkapelkhlpaaGreatDoor.roots s.frames) (vg s) ∧ ∀ x ∈ vg s, nU (cellAt s.cells x) (vg s) := SN h.cells h.roots
theorem Lj {α ρ : Type} {body : Int → List α → (List α → Option ρ) → Option ρ} {K : List α → Option ρ} {g : α → α} {P : α → Prop}
    (hb : ∀ (i : Nat) (x : List α) a nx, x[i]? = some a → P a → body (i : Int) x nx = nx (x.set i (g a))) :
    ∀ (l2 l1 : List α), (∀ a ∈ l2, P a) → upto body K (l1.length : Int) l2.length (l1 ++ l2) = K (l1 ++ l2.map g)
  | [], l1, _ => by simp [upto]
  | a :: l2, l1, h => by
    rw [List.length_cons, IU, hb l1.length (l1 ++ a :: l2) a _ (by simp) (h a (by simp))]
    have := Lj (K := K) hb l2 (l1 ++ [g a]) (fun b hb => h b (List.mem_cons_of_mem _ hb))
    rw [show (l1 ++ a :: l2).set l1.length (g a) = (l1 ++ [g a]) ++ l2 by simp, show ((l1.length : Int) + 1) = ((l1 ++ [g a]).length : Nat) by simp, this]
    simp
theorem EB {α ρ : Type} {body : Int → List α → (List α → Option ρ) → Option ρ} {K : List α → Option ρ} {g : α → α} {P : α → Prop}
    (hb : ∀ (i : Nat) (x : List α) a nx, x[i]? = some a → P a → body (i : Int) x nx = nx (x.set i (g a))) (l : List α) (hp : ∀ a ∈ l, P a) : upto body K 0 l.length l = K (l.map g) := by
  have := Lj (K := K) hb l [] hp
  simpa using this
def GY (l : List Int) (m : List (Int × Int)) : Prop := ∀ k, lk k m = if k ∈ l then some ((l.idxOf k : Nat) : Int) else none
theorem Ob {l : List Int} {m : List (Int × Int)} (h : GY l m) (vs : List Val) (hr : nU vs l) : Gg vs m = some (vs.map (ren l)) := by
  unfold Gg
  rw [Int.toNat_natCast]
  refine EB (P := fun v => v.kind = 2 → v.n ∈ l) (fun i x a nx hx hp => ?_) vs (fun v hv => hr v hv)
  unfold Bb Ba
  rw [tT, hx, bnd]
  by_cases hk : a.kind = 2
  · rw [dT hk, cond_true, h a.n, if_pos (hp hk)]
    simp [ren, hk]
  · rw [dF hk, cond_false]
    have : x.set i a = x := by
      obtain ⟨h1, rfl⟩ := List.getElem?_eq_some_iff.1 hx
      exact List.set_getElem_self h1
    simp [ren, hk, this]
theorem GZ {s : LX.State} (hc : ma s.cells) {K : List (List Val) × List Int × List (Int × Int) → Option LX.State} : ∀ (l2 l1 : List Int) (m : List (Int × Int)), oP s.cells.length (l1 ++ l2) → GY l1 m →
    ∃ m', GY (l1 ++ l2) m' ∧ eO (nQ s) K (l1.length : Int) l2 (l1.map (cellAt s.cells), l1, m) = K ((l1 ++ l2).map (cellAt s.cells), l1 ++ l2, m')
  | [], l1, m, _, h => ⟨m, by simpa using h, by simp [eO]⟩
  | k :: l2, l1, m, hm, h => by
    have e1 : l1 ++ k :: l2 = (l1 ++ [k]) ++ l2 := by simp
    have hk : k ∉ l1 := by
      intro hk
      exact (List.nodup_append.1 hm.1).2.2 k hk k (by simp) rfl
    have hl := hm.len
    have hn := hc.1
    simp only [List.length_append, List.length_cons] at hl
    have hr := hm.2 k (by simp)
    rw [iG]
    obtain ⟨m', h1, h2⟩ := GZ hc (K := K) l2 (l1 ++ [k]) (yN k (l1.length : Int) m) (by rw [← e1]; exact hm) (fun q => by
      rw [J5]
      by_cases e : q = k
      · subst e
        rw [if_pos rfl, if_pos (by simp), List.idxOf_append, if_neg hk]
        simp
      · rw [if_neg e, h q]
        by_cases hq : q ∈ l1
        · rw [if_pos hq, if_pos (by simp [hq]), List.idxOf_append, if_pos hq]
        · rw [if_neg hq, if_neg (by simp [hq, e])])
    refine ⟨m', by rw [e1]; exact h1, ?_⟩
    have hlen : (((l1 ++ [k]).length : Nat) : Int) = (l1.length : Int) + 1 := by simp
    rw [hlen] at h2
    rw [e1, ← h2]
    generalize eO (nQ s) K ((l1.length : Int) + 1) l2 = K1
    unfold nQ
    simp only
    rw [(zk hr).1, bnd, zo hk, zo (room_le (by simp; omega) (by decide)), List.map_append]
    rfl
theorem J6 {l : List Int} {m : List (Int × Int)} (h : GY l m) (K : List LX.Frame → Option LX.State) (fr : List LX.Frame) (hr : ∀ f ∈ fr, nU f.regs l) : upto (sM m) K 0 fr.length fr = K (fr.map (GV l)) :=
  EB (P := fun f => nU f.regs l) (fun i x a nx hx hp => by
    unfold sM
    rw [tT, hx, bnd, Ob h a.regs hp, bnd]
    simp [GV]) fr hr
theorem Ll {l : List Int} {m : List (Int × Int)} (h : GY l m) (K : List (List Val) → Option LX.State) (cs : List (List Val)) (hr : ∀ c ∈ cs, nU c l) : upto (uN m) K 0 cs.length cs = K (cs.map (fun c => c.map (ren l))) :=
  EB (P := fun c => nU c l) (fun i x a nx hx hp => by
    unfold uN
    rw [tT, hx, bnd, Ob h a hp, bnd]
    simp) cs hr
theorem IY {K : List Val → Option LX.State} : ∀ (fr : List LX.Frame) (acc : List Val), acc.length + (roots fr).length ≤ 1000 → each qh K fr acc = K (acc ++ roots fr)
  | [], acc, _ => by simp [gU, roots]
  | f :: fr, acc, h => by
    have e : roots (f :: fr) = f.regs ++ roots fr := rfl
    rw [e, List.length_append] at h
    rw [dP]
    have ih := IY (K := K) fr (acc ++ f.regs) (by simp; omega)
    generalize each qh K fr = K1 at ih ⊢
    unfold qh
    rw [zo (room_le (by omega) (by decide)), ih, e, List.append_assoc]
theorem Lm {fr : List LX.Frame} {l : List Int} (h : nU (roots fr) l) : ∀ f ∈ fr, nU f.regs l := fun f hf v hv hk => h v (List.mem_flatMap.2 ⟨f, hf, hv⟩) hk
theorem SS {N : Nat} (hN : 100 ≤ N) {s : LX.State} (h : GX s) : CY N s = some (pY s) := by
  have hr := h.reach
  unfold CY
  rw [IY s.frames [] (by have := h.aaq; simp; omega), List.nil_append]
  unfold vK
  rw [SQ hN h.cells h.roots h.aaq, bnd, dF (by simp), cond_false, copy_eq h.small, bnd]
  have e : Ci s.cells (roots s.frames) = vg s := rfl
  simp only [e]
  obtain ⟨m', h1, h2⟩ := GZ h.cells (K := qg s) (vg s) [] [] (by simpa using hr.1) (fun k => by simp [lk])
  have h2' : eO (nQ s) (qg s) 0 (vg s) ([], ([] : List Int), ([] : List (Int × Int))) = _ := h2
  rw [h2']
  simp only [List.nil_append] at h1 ⊢
  unfold qg
  simp only [Int.toNat_natCast]
  rw [J6 h1 _ _ (Lm hr.2.1)]
  unfold vJ
  rw [Int.toNat_natCast, Ll h1 _ _ (fun c hc => by
    obtain ⟨k, hk, rfl⟩ := List.mem_map.1 hc
    exact hr.2.2 k hk)]
  unfold vI pY
  rw [List.map_map]; rfl
end Go.Proofs.YtfclkapelkhlpaaGreatDoor
namespace Go.Proofs.YtfclkapelkhlpaaGreatDoor
open Go Go.Proofs Go.LX
def mZ (r : List Val) (i : Int) : Val := (idx r i).getD ⟨0, 0⟩
def Xu (k : Int) (b c : Val) : Option Val :=
  if k = 5 then some ⟨1, if b = c then 1 else 0⟩ else if b.kind ≠ 1 ∨ c.kind ≠ 1 then none else if k = 4 then some ⟨1, if b.n < c.n then 1 else 0⟩ else
  let n := if k = 1 then b.n + c.n else if k = 2 then b.n - c.n else b.n * c.n
  if -1000000000 ≤ n ∧ n ≤ 1000000000 then some ⟨1, n⟩ else none
def Hw (f : LX.Frame) (x : cz) : LX.Frame := { f with at_ := min (f.at_ + 1) ((x.code.length : Int) - 1) }
def Lp (s : LX.State) (c : Ins) : Option LX.State :=
  if s.cells.length = 24 then none else some ⟨s.frames.dropLast ++ (s.frames.getLast?.map fun h => { h with regs := h.regs.set c.a.toNat ⟨2, s.cells.length⟩ }).toList, s.cells ++ [List.replicate c.b.toNat ⟨0, 0⟩], s.status, s.aV⟩
def ng (a : List cz) (pre : List LX.Frame) (f : LX.Frame) (cells : List (List Val)) (st wh : Int) (x : cz) (c : Ins) : Option (LX.State × Option Int × Bool) :=
  let g := Hw f x
  let r := mZ f.regs
  let put := fun (v : Val) => (⟨pre ++ [{ g with regs := f.regs.set c.a.toNat v }], cells, st, wh⟩ : LX.State)
  let stay := (⟨pre ++ [g], cells, st, wh⟩ : LX.State)
  let jump := (⟨pre ++ [{ g with at_ := c.b }], cells, st, wh⟩ : LX.State)
  let bad := fun (v : Val) => v.kind ≠ 2 ∨ ((cellAt cells v.n).length : Int) ≤ c.c
  if c.op = 1 then some (put ⟨1, c.b⟩, none, false) else
  if c.op = 2 then some (put (r c.b), none, false) else
  if c.op = 3 then (Xu (c.args.headD 0) (r c.b) (r c.c)).map fun v => (put v, none, false) else
  if c.op = 4 then (if bad (r c.b) then none else some (put (mZ (cellAt cells (r c.b).n) c.c), none, false)) else
  if c.op = 6 then (if bad (r c.a) then none else some (⟨pre ++ [g], cells.set (r c.a).n.toNat ((cellAt cells (r c.a).n).set c.c.toNat (r c.b)), st, wh⟩, none, false)) else
  if c.op = 5 then (Lp (if cells.length = 24 then pY stay else stay) c).map fun t => (t, none, false) else
  if c.op = 7 then (if pre.length + 1 = 10 then none else some (⟨pre ++ [g] ++ [⟨c.b, 0, c.args.map r ++ List.replicate (((idx a c.b).map (·.regs)).getD 0 - c.args.length).toNat ⟨0, 0⟩, c.a⟩], cells, st, wh⟩, none, false)) else
  if c.op = 8 then some (match pre.getLast? with
    | none => ⟨[], cells, 1, wh⟩
    | some h => ⟨pre.dropLast ++ [{ h with regs := h.regs.set f.l6.toNat (r c.a) }], cells, st, wh⟩, none, false) else
  if c.op = 9 then (if (r c.a).kind = 1 then some (stay, some (r c.a).n, false) else none) else
  if c.op = 11 then (if (r c.a).kind = 1 then some (⟨pre ++ [g], cells, 3, (r c.a).n⟩, none, true) else none) else
  if c.op = 12 then some (jump, none, false) else
  if c.op = 13 then some (if (r c.a).kind ≠ 2 ∧ (r c.a).n = 0 then jump else stay, none, false) else
  some (stay, none, true)
def R1 (r : Option (Bz × Bool × LX.State)) (q : Option (LX.State × Option Int × Bool)) : Prop := ∃ o ok s', r = some (o, ok, s') ∧ match q with | none => ok = false | some (t, said, p) => ok = true ∧ s' = t ∧ o = ⟨said.isSome, said.getD 0, p⟩
theorem Ap {R : Int} {r : List Val} (hr : (r.length : Int) = R) {i : Int} (h : wF R i) : idx r i = some (mZ r i) ∧ mZ r i ∈ r := by
  obtain ⟨h1, h2⟩ := h
  obtain ⟨n, rfl⟩ := Int.eq_ofNat_of_zero_le h1
  unfold mZ
  rw [wY (by omega)]
  exact ⟨rfl, List.getElem_mem _⟩
theorem Df (pre : List LX.Frame) (f : LX.Frame) : idx (pre ++ [f]) (pre.length : Int) = some f := by rw [tT]; simp
theorem qj (pre : List LX.Frame) (f g : LX.Frame) : (pre ++ [f]).set pre.length g = pre ++ [g] := by simp
theorem nV (pre : List LX.Frame) (f : LX.Frame) : (((pre ++ [f]).length : Int) - 1) = (pre.length : Int) := by simp
theorem Xv {x y : Int} (hx : -1000000000 ≤ x ∧ x ≤ 1000000000) (hy : -1000000000 ≤ y ∧ y ≤ 1000000000) : -1000000000000000000 ≤ x * y ∧ x * y ≤ 1000000000000000000 := by
  have h1 : (x * y).natAbs ≤ 1000000000 * 1000000000 := by
    rw [Int.natAbs_mul]
    exact Nat.mul_le_mul (by omega) (by omega)
  omega
theorem gT.int {n : Nat} {v : Val} (h : gT n v) (hk : v.kind = 1) : -1000000000 ≤ v.n ∧ v.n ≤ 1000000000 := by unfold gT at h; omega
theorem aar {n : Nat} {k : Int} {b c : Val} (hk : 1 ≤ k ∧ k ≤ 5) (hb : gT n b) (hc : gT n c) : ∃ v, KX k b c = some (v, (Xu k b c).isSome) ∧ ∀ w, Xu k b c = some w → v = w := by
  unfold KX Xu yc
  by_cases h5 : k = 5
  · rw [dT h5, cond_true, if_pos h5]
    by_cases e : b = c
    · subst e; simp
    · rw [if_neg e]
      have : (decide (b.kind = c.kind) && decide (b.n = c.n)) = false := by
        obtain ⟨k1, n1⟩ := b; obtain ⟨k2, n2⟩ := c
        rw [Bool.and_eq_false_iff]; simp at e ⊢
        by_cases h : k1 = k2
        · right; exact e h
        · left; exact h
      rw [this]; simp
  rw [dF h5, cond_false, if_neg h5]
  by_cases hi : b.kind = 1 ∧ c.kind = 1
  · rw [show (decide ((b.kind : Int) ≠ 1) || decide ((c.kind : Int) ≠ 1)) = false by simp [hi.1, hi.2], cond_false, if_neg (by simp [hi.1, hi.2])]
    have b1 := hb.int hi.1
    have c1 := hc.int hi.2
    have m1 := Xv b1 c1
    have fin : ∀ z : Int, ∃ v, some ((⟨1, z⟩ : Val), (decide ((-1000000000 : Int) ≤ z) && decide ((z : Int) ≤ 1000000000))) = some (v, (if -1000000000 ≤ z ∧ z ≤ 1000000000 then some (⟨1, z⟩ : Val) else none).isSome) ∧ ∀ w, (if -1000000000 ≤ z ∧ z ≤ 1000000000 then some (⟨1, z⟩ : Val) else none) = some w → v = w := by
      intro z
      by_cases h : -1000000000 ≤ z ∧ z ≤ 1000000000
      · rw [if_pos h, dT h.1, dT h.2]; exact ⟨_, rfl, fun w e => by cases e; rfl⟩
      · rw [if_neg h]
        refine ⟨⟨1, z⟩, ?_, fun w e => by cases e⟩
        · congr 2
          rw [Option.isSome_none, Bool.and_eq_false_iff]; simp only [decide_eq_false_iff_not]; omega
    by_cases h4 : k = 4
    · subst h4
      rw [if_pos rfl]
      simp only [Int.reduceEq, decide_false, decide_true, cond_false, cond_true]
      by_cases e : b.n < c.n <;> simp [e]
    rw [if_neg h4]
    by_cases h1 : k = 1
    · subst h1
      simp only [Int.reduceEq, decide_true, cond_true, if_true]
      rw [gI (by omega) (by omega)]
      exact fin _
    by_cases h2 : k = 2
    · subst h2
      simp only [Int.reduceEq, decide_true, decide_false, cond_true, cond_false, if_true, if_false]
      rw [gI (by omega) (by omega)]
      exact fin _
    · obtain rfl : k = 3 := by omega
      simp only [Int.reduceEq, decide_true, decide_false, cond_true, cond_false, if_true, if_false]
      rw [gI (by omega) (by omega)]
      exact fin _
  · rw [show (decide ((b.kind : Int) ≠ 1) || decide ((c.kind : Int) ≠ 1)) = true by simp; omega, cond_true, if_pos (by omega)]
    exact ⟨_, rfl, fun w e => by cases e⟩
end Go.Proofs.YtfclkapelkhlpaaGreatDoor
namespace Go.Proofs.YtfclkapelkhlpaaGreatDoor
open Go Go.Proofs Go.LX
theorem j6 {a : List cz} {n : Nat} {f : LX.Frame} : ∀ {l : List LX.Frame} {t : Int}, je a n t (l ++ [f]) ↔ je a n t l ∧ (∃ x, xx a n f x) ∧ (0 ≤ f.l6 ∧ f.l6 < (match l.getLast? with | none => t | some g => g.regs.length))
  | [], t => by simp [je]
  | g :: l, t => by
    show ((∃ x, xx a n g x) ∧ (0 ≤ g.l6 ∧ g.l6 < t) ∧ je a n g.regs.length (l ++ [f])) ↔ _
    rw [j6 (l := l)]
    have e : (match (g :: l).getLast? with | none => t | some g => ((g.regs.length : Int))) = (match l.getLast? with | none => ((g.regs.length : Int)) | some g => (g.regs.length : Int)) := by
      rw [List.getLast?_cons]
      cases l.getLast? <;> rfl
    rw [e]
    simp only [je, and_assoc]
structure p8 (a : List cz) (pre : List LX.Frame) (f : LX.Frame) (cells : List (List Val)) (x : cz) (c : Ins) : Prop where
  fr : xx a cells.length f x
  ins : idx x.code f.at_ = some c
  good : zH a x.regs x.code.length c
  chain : je a cells.length 1 pre
  l6 : 0 ≤ f.l6 ∧ f.l6 < ahead pre
  many : pre.length + 1 ≤ 10
  Lr : ma cells
  proc : (1 ≤ x.regs ∧ x.regs ≤ 40) ∧ qi x
theorem Xw {a : List cz} (ha : nT a) {pre : List LX.Frame} {f : LX.Frame} {cells : List (List Val)} {st wh : Int} (h : uQ a ⟨pre ++ [f], cells, st, wh⟩) : ∃ x c, p8 a pre f cells x c := by
  obtain ⟨h1, ⟨x, g⟩, h3⟩ := j6.1 h.frames
  have hm := ha.mem g.proc
  have hat := g.at_
  obtain ⟨n, hn⟩ := Int.eq_ofNat_of_zero_le hat.1
  have hlt : n < x.code.length := by omega
  refine ⟨x, x.code[n], g, by rw [hn, wY hlt], ha.ins x hm.1 _ (List.getElem_mem _), h1, h3, ?_, h.cells, ⟨by omega, hm.2.2.2⟩⟩
  have := h.many
  simpa using this
theorem p8.Hw {a : List cz} {pre : List LX.Frame} {f : LX.Frame} {cells : List (List Val)} {x : cz} {c : Ins} (h : p8 a pre f cells x c) : xx a cells.length (Hw f x) x where
  proc := h.fr.proc
  at_ := by
    have := h.fr.at_
    have := h.proc.2
    unfold qi at this
    simp only [YtfclkapelkhlpaaGreatDoor.Hw]
    omega
  regs := h.fr.regs
  vals := h.fr.vals
theorem p8.reg {a : List cz} {pre : List LX.Frame} {f : LX.Frame} {cells : List (List Val)} {x : cz} {c : Ins} (h : p8 a pre f cells x c) {i : Int} (hi : wF x.regs i) : idx f.regs i = some (mZ f.regs i) ∧ gT cells.length (mZ f.regs i) := by
  have := Ap h.fr.regs hi
  exact ⟨this.1, h.fr.vals _ this.2⟩
theorem p8.sw {a : List cz} {pre : List LX.Frame} {f : LX.Frame} {cells : List (List Val)} {x : cz} {c : Ins} (ha : nT a) (h : p8 a pre f cells x c) {st wh : Int} {g : LX.Frame} (hg : xx a cells.length g x) : GX ⟨pre ++ [g], cells, st, wh⟩ where
  small := ⟨by have := h.many; simp; omega, fun k hk => by
    rcases List.mem_append.1 hk with hk | hk
    · obtain ⟨y, hy⟩ := sN h.chain k hk
      have := hy.regs
      have := (ha.mem hy.proc).2.2.1
      omega
    · simp at hk; subst hk
      have := hg.regs
      have := h.proc.1
      omega, h.Lr.1, fun c hc => (h.Lr.2 c hc).1.2⟩
  cells := h.Lr
  vals k hk := by
    rcases List.mem_append.1 hk with hk | hk
    · obtain ⟨y, hy⟩ := sN h.chain k hk
      exact hy.vals
    · simp at hk; subst hk; exact hg.vals
section
variable {a : List cz} {pre : List LX.Frame} {f : LX.Frame} {cells : List (List Val)} {st wh : Int} {x : cz} {c : Ins} {N : Nat}
theorem sO (h : p8 a pre f cells x c) : nR N ⟨pre ++ [f], cells, st, wh⟩ a = (bif decide ((c.op : Int) = 1) then (idx f.regs c.a).bind fun x41 => jR false (pre ++ [{ Hw f x with regs := (f.regs.set (c.a).toNat (⟨1, c.b⟩ : Val)) }]) cells st wh else bif decide ((c.op : Int) = 2) then (idx f.regs c.b).bind fun Sg => (idx f.regs c.a).bind fun x56 => jR false (pre ++ [{ Hw f x with regs := (f.regs.set (c.a).toNat Sg) }]) cells st wh else bif decide ((c.op : Int) = 3) then (idx c.args 0).bind fun q5 => (idx f.regs c.b).bind fun q10 => (idx f.regs c.c).bind fun q15 => (KX q5 q10 q15).bind fun q17 => (idx f.regs c.a).bind fun q21 => zh ⟨pre ++ [f], cells, st, wh⟩ q17.2 (pre ++ [{ Hw f x with regs := (f.regs.set (c.a).toNat q17.1) }]) else bif decide ((c.op : Int) = 4) then iI N ⟨pre ++ [f], cells, st, wh⟩ f x c a (decide ((c.op : Int) = 4)) else iI N ⟨pre ++ [f], cells, st, wh⟩ f x c a (decide ((c.op : Int) = 6))) := by
  have hm := h.many
  have hat := h.fr.at_
  have hl := h.proc.2
  unfold qi at hl
  unfold nR
  simp only [nV]
  rw [gI (by omega) (by omega), Df, bnd, h.fr.proc, bnd, h.ins, bnd, gI (by omega) (by omega), gI (by omega) (by omega)]
  simp only [Int.toNat_natCast, qj]
  rfl
theorem step1 (h : p8 a pre f cells x c) (hop : c.op = 1) (hr : wF x.regs c.a) : R1 (nR N ⟨pre ++ [f], cells, st, wh⟩ a) (ng a pre f cells st wh x c) := by
  rw [sO h, hop]
  simp only [Int.reduceEq, decide_true, decide_false, cond_true, cond_false]
  rw [(h.reg hr).1, bnd]
  unfold ng
  simp only [hop, if_true]
  exact ⟨_, _, _, rfl, rfl, rfl, rfl⟩
theorem step2 (h : p8 a pre f cells x c) (hop : c.op = 2) (hr : wF x.regs c.a) (hb : wF x.regs c.b) : R1 (nR N ⟨pre ++ [f], cells, st, wh⟩ a) (ng a pre f cells st wh x c) := by
  rw [sO h, hop]
  simp only [Int.reduceEq, decide_true, decide_false, cond_true, cond_false]
  rw [(h.reg hb).1, bnd, (h.reg hr).1, bnd]
  unfold ng
  simp only [hop, Int.reduceEq, if_true, if_false]
  exact ⟨_, _, _, rfl, rfl, rfl, rfl⟩
theorem aas (h : p8 a pre f cells x c) (hop : c.op = 3) (hr : wF x.regs c.a) (hb : wF x.regs c.b) (hc : wF x.regs c.c) {n : Int} (hn : c.args = [n]) (hn2 : 1 ≤ n ∧ n ≤ 5) : R1 (nR N ⟨pre ++ [f], cells, st, wh⟩ a) (ng a pre f cells st wh x c) := by
  rw [sO h, hop, hn]
  simp only [Int.reduceEq, decide_true, decide_false, cond_true, cond_false]
  obtain ⟨v, h1, h2⟩ := aar hn2 (h.reg hb).2 (h.reg hc).2
  rw [Xp, bnd, (h.reg hb).1, bnd, (h.reg hc).1, bnd, h1, bnd, (h.reg hr).1, bnd]
  unfold ng zh
  simp only [hop, hn, Int.reduceEq, if_true, if_false, List.headD_cons]
  cases e : Xu n (mZ f.regs c.b) (mZ f.regs c.c) with
  | none => exact ⟨_, _, _, rfl, rfl⟩
  | some w => rw [h2 w e]; exact ⟨_, _, _, rfl, rfl, rfl, rfl⟩
theorem Ls {v : Val} (hc : ma cells) (h : gT cells.length v) (hk : v.kind = 2) : idx cells v.n = some (cellAt cells v.n) ∧ (1 ≤ (cellAt cells v.n).length ∧ (cellAt cells v.n).length ≤ 4) := by
  have hr := h.ref hk
  exact ⟨(zk hr).1, (hc.at hr).1⟩
theorem Oc {v : Val} {i : Int} (hi : 0 ≤ i) (h : i < ((cellAt cells v.n).length : Int)) : idx (cellAt cells v.n) i = some (mZ (cellAt cells v.n) i) := (Ap rfl ⟨hi, h⟩).1
theorem PS (h : p8 a pre f cells x c) (hop : c.op = 4) (hr : wF x.regs c.a) (hb : wF x.regs c.b) (hc : 0 ≤ c.c ∧ c.c < 4) : R1 (nR N ⟨pre ++ [f], cells, st, wh⟩ a) (ng a pre f cells st wh x c) := by
  rw [sO h, hop]
  simp only [Int.reduceEq, decide_true, decide_false, cond_true, cond_false]
  unfold iI CV uM uL
  simp only [nV, Int.toNat_natCast, qj, hop, Int.reduceEq, decide_true, decide_false, cond_true, cond_false]
  have hv := h.reg hb
  rw [hv.1]
  simp only [bnd]
  unfold ng
  simp only [hop, Int.reduceEq, if_true, if_false]
  by_cases hk : (mZ f.regs c.b).kind = 2
  · have hcell := Ls h.Lr hv.2 hk
    rw [dF (by omega), cond_false, hcell.1]
    simp only [bnd]
    by_cases hl : ((cellAt cells (mZ f.regs c.b).n).length : Int) ≤ c.c
    · rw [dT hl, cond_true, if_pos (by omega)]
      exact ⟨_, _, _, rfl, rfl⟩
    · rw [dF hl, cond_false, if_neg (by omega), Oc hc.1 (by omega), bnd, (h.reg hr).1, bnd]
      exact ⟨_, _, _, rfl, rfl, rfl, rfl⟩
  · rw [dT hk, cond_true, if_pos (.inl hk)]
    exact ⟨_, _, _, rfl, rfl⟩
theorem PT (h : p8 a pre f cells x c) (hop : c.op = 6) (hr : wF x.regs c.a) (hb : wF x.regs c.b) (hc : 0 ≤ c.c ∧ c.c < 4) : R1 (nR N ⟨pre ++ [f], cells, st, wh⟩ a) (ng a pre f cells st wh x c) := by
  rw [sO h, hop]
  simp only [Int.reduceEq, decide_true, decide_false, cond_true, cond_false]
  unfold iI CV uM uL
  simp only [nV, Int.toNat_natCast, qj, hop, Int.reduceEq, decide_true, decide_false, cond_true, cond_false]
  have hv := h.reg hr
  rw [hv.1]
  simp only [bnd]
  unfold ng
  simp only [hop, Int.reduceEq, if_true, if_false]
  by_cases hk : (mZ f.regs c.a).kind = 2
  · have hcell := Ls h.Lr hv.2 hk
    rw [dF (by omega), cond_false, hcell.1]
    simp only [bnd]
    by_cases hl : ((cellAt cells (mZ f.regs c.a).n).length : Int) ≤ c.c
    · rw [dT hl, cond_true, if_pos (by omega)]
      exact ⟨_, _, _, rfl, rfl⟩
    · rw [dF hl, cond_false, if_neg (by omega), (h.reg hb).1, bnd, Oc hc.1 (by omega), bnd]
      exact ⟨_, _, _, rfl, rfl, rfl, rfl⟩
  · rw [dT hk, cond_true, if_pos (.inl hk)]
    exact ⟨_, _, _, rfl, rfl⟩
theorem IZ (g : LX.Frame) : pY ⟨pre ++ [g], cells, st, wh⟩ = ⟨pre.map (GV (vg ⟨pre ++ [g], cells, st, wh⟩)) ++ [GV (vg ⟨pre ++ [g], cells, st, wh⟩) g], (pY ⟨pre ++ [g], cells, st, wh⟩).cells, st, wh⟩ := by
  unfold pY; simp
theorem PU {s : LX.State} (h : GX s) : (pY s).cells.length ≤ s.cells.length ∧ (pY s).cells.length ≤ 24 := by
  have h1 := h.reach.1.len
  have := h.cells.1
  unfold pY; simp; omega
theorem Lt (p2 : List LX.Frame) (g : LX.Frame) (cs : List (List Val)) (hl : p2.length ≤ 20) (hcs : cs.length ≤ 24) (hr : wF g.regs.length c.a) (hb : 1 ≤ c.b ∧ c.b ≤ 4) : ∃ ok t, pM c (p2 ++ [g]) cs st wh = some (ok, t) ∧ match Lp ⟨p2 ++ [g], cs, st, wh⟩ c with | none => ok = false | some u => ok = true ∧ t = u := by
  unfold pM Lp
  simp only [nV]
  by_cases h : cs.length = 24
  · rw [dT (by omega), cond_true, if_pos h]; exact ⟨_, _, rfl, rfl⟩
  · rw [dF (by omega), cond_false, if_neg h, gI (by omega) (by omega), Df, bnd, (Ap rfl hr).1, bnd, zo (by omega), zo (room_le (by simp; omega) (by decide)), Int.toNat_natCast, qj]
    refine ⟨_, _, rfl, rfl, ?_⟩
    simp
theorem aat (ha : nT a) (hN : 100 ≤ N) (h : p8 a pre f cells x c) (hop : c.op = 5) (hr : wF x.regs c.a) (hb : 1 ≤ c.b ∧ c.b ≤ 4) : R1 (nR N ⟨pre ++ [f], cells, st, wh⟩ a) (ng a pre f cells st wh x c) := by
  rw [sO h, hop]
  simp only [Int.reduceEq, decide_true, decide_false, cond_true, cond_false]
  unfold iI Gi
  simp only [nV, Int.toNat_natCast, qj, hop, Int.reduceEq, decide_true, decide_false, cond_true, cond_false]
  unfold ng
  simp only [hop, Int.reduceEq, if_true, if_false]
  have hm := h.many
  have hsw := p8.sw ha h (st := st) (wh := wh) h.Hw
  have hrr : wF (Hw f x).regs.length c.a := by have := h.Hw.regs; rw [this]; exact hr
  have fin : ∀ s2 : LX.State, (∃ ok t, pM c s2.frames s2.cells s2.status s2.aV = some (ok, t) ∧ match Lp s2 c with | none => ok = false | some u => ok = true ∧ t = u) →
      R1 ((pM c s2.frames s2.cells s2.status s2.aV).bind fun y => some ((⟨false, 0, false⟩ : Bz), y.1, y.2)) ((Lp s2 c).map fun t => (t, none, false)) := by
    rintro s2 ⟨ok, t, h1, h2⟩
    rw [h1, bnd]
    cases e : Lp s2 c with
    | none => rw [e] at h2; exact ⟨_, _, _, rfl, h2⟩
    | some u => rw [e] at h2; exact ⟨_, _, _, rfl, h2.1, h2.2, rfl⟩
  by_cases h24 : cells.length = 24
  · rw [dT (by omega), cond_true, if_pos h24]
    have e1 : ({ f with at_ := min (f.at_ + 1) ((x.code.length : Int) - 1) } : LX.Frame) = Hw f x := rfl
    rw [e1, SS hN hsw, bnd]
    refine fin _ ?_
    rw [IZ]
    exact Lt _ _ _ (by simp; omega) (PU hsw).2 (by simpa [GV] using hrr) hb
  · rw [dF (by omega), cond_false, if_neg h24]
    exact fin ⟨pre ++ [Hw f x], cells, st, wh⟩ (Lt _ _ _ (by omega) h.Lr.1 hrr hb)
theorem I1 {ρ : Type} {body : Int → Int → List Val → (List Val → Option ρ) → Option ρ} {K : List Val → Option ρ} {r : Int → Val} {P : Int → Prop}
    (hb : ∀ (i : Nat) k y nx, i < y.length → P k → body (i : Int) k y nx = nx (y.set i (r k))) : ∀ (l : List Int) (done rest : List Val), (∀ k ∈ l, P k) → l.length ≤ rest.length → eO body K (done.length : Int) l (done ++ rest) = K (done ++ l.map r ++ rest.drop l.length)
  | [], done, rest, _, _ => by simp [eO]
  | k :: l, done, z :: rest, h, hl => by
    rw [iG, hb done.length k (done ++ z :: rest) _ (by simp) (h k (by simp)), show (done ++ z :: rest).set done.length (r k) = (done ++ [r k]) ++ rest by simp, show ((done.length : Int) + 1) = ((done ++ [r k]).length : Nat) by simp, I1 hb l (done ++ [r k]) rest (fun q hq => h q (List.mem_cons_of_mem _ hq)) (by simpa using hl)]
    simp
  | k :: l, done, [], h, hl => by simp at hl
theorem aau (ha : nT a) (h : p8 a pre f cells x c) (hop : c.op = 7) (hr : wF x.regs c.a) {p : cz} (hp : idx a c.b = some p) (hl : (c.args.length : Int) = p.params) (hargs : ∀ k ∈ c.args, wF x.regs k) : R1 (nR N ⟨pre ++ [f], cells, st, wh⟩ a) (ng a pre f cells st wh x c) := by
  rw [sO h, hop]
  simp only [Int.reduceEq, decide_true, decide_false, cond_true, cond_false]
  unfold iI JS
  simp only [nV, Int.toNat_natCast, qj, hop, Int.reduceEq, decide_true, decide_false, cond_true, cond_false]
  unfold ng
  simp only [hop, Int.reduceEq, if_true, if_false]
  have hm := h.many
  have hpr := ha.mem hp
  by_cases h10 : pre.length + 1 = 10
  · rw [dT (by simp; omega), cond_true, if_pos h10]; exact ⟨_, _, _, rfl, rfl⟩
  · rw [dF (by simp; omega), cond_false, if_neg h10, hp, bnd, zo (by omega)]
    have Qi := I1 (K := tH ⟨pre ++ [Hw f x], cells, st, wh⟩ c a) (body := tF ⟨pre ++ [Hw f x], cells, st, wh⟩) (r := mZ f.regs) (P := fun k => wF x.regs k) (fun i k y nx hi hk => by
      unfold tF
      simp only [nV]
      rw [gI (by omega) (by omega), Df, bnd]
      show ((idx f.regs k).bind fun xN => (idx y (i : Int)).bind fun x41 => nx (y.set ((i : Int)).toNat xN)) = _
      rw [(h.reg hk).1, bnd, wY hi, bnd, Int.toNat_natCast]) c.args [] (List.replicate p.regs.toNat ⟨0, 0⟩) hargs (by simp; omega)
    have Xx : eO (tF ⟨pre ++ [Hw f x], cells, st, wh⟩) (tH ⟨pre ++ [Hw f x], cells, st, wh⟩ c a) 0 c.args (List.replicate p.regs.toNat ⟨0, 0⟩) = _ := Qi
    have e1 : ({ f with at_ := min (f.at_ + 1) ((x.code.length : Int) - 1) } : LX.Frame) = Hw f x := rfl
    rw [e1, Xx]
    unfold tH
    simp only
    rw [zo (room_le (by simp; omega) (by decide)), bnd]
    refine ⟨_, _, _, rfl, rfl, ?_, rfl⟩
    simp only [List.nil_append, List.drop_replicate, hp, Option.map_some, Option.getD_some]
    rw [show p.regs.toNat - c.args.length = (p.regs - (c.args.length : Int)).toNat by omega]
theorem aav (ha : nT a) (h : p8 a pre f cells x c) (hop : c.op = 8) (hr : wF x.regs c.a) : R1 (nR N ⟨pre ++ [f], cells, st, wh⟩ a) (ng a pre f cells st wh x c) := by
  rw [sO h, hop]
  simp only [Int.reduceEq, decide_true, decide_false, cond_true, cond_false]
  unfold iI JU
  simp only [nV, Int.toNat_natCast, qj, hop, Int.reduceEq, decide_true, decide_false, cond_true, cond_false]
  unfold ng
  simp only [hop, Int.reduceEq, if_true, if_false]
  have hm := h.many
  rw [(h.reg hr).1, bnd, gI (by omega) (by omega)]
  rw [show sub? (pre ++ [({ f with at_ := min (f.at_ + 1) ((x.code.length : Int) - 1) } : LX.Frame)]) 0 (pre.length : Int) = some pre by unfold sub?; rw [if_pos (by simp; omega)]; simp [cut], bnd]
  rw [show (pre ++ [({ f with at_ := min (f.at_ + 1) ((x.code.length : Int) - 1) } : LX.Frame)]).take pre.length = pre by simp]
  rcases List.eq_nil_or_concat pre with hp | ⟨q, g, hp⟩
  · subst hp
    exact ⟨_, _, _, rfl, rfl, rfl, rfl⟩
  · rw [List.concat_eq_append] at hp
    subst hp
    have hto := h.l6
    rw [Ch] at hto
    simp only [List.length_append, List.length_cons, List.length_nil] at hm
    rw [dF (by simp; omega), cond_false, nV, gI (by omega) (by omega), Df, bnd, (Ap rfl hto).1, bnd, Int.toNat_natCast, qj, bnd]
    simp only [List.getLast?_append, List.getLast?_singleton, Option.some_or, List.dropLast_concat]
    exact ⟨_, _, _, rfl, rfl, rfl, rfl⟩
theorem yw (h : p8 a pre f cells x c) (hop : (c.op = 9 ∨ c.op = 11 ∨ c.op = 13) ∧ wF x.regs c.a ∨ c.op = 10 ∨ c.op = 12) : R1 (nR N ⟨pre ++ [f], cells, st, wh⟩ a) (ng a pre f cells st wh x c) := by
  rw [sO h]
  rcases hop with ⟨hop | hop | hop, hr⟩ | hop | hop
  · rw [hop]
    simp only [Int.reduceEq, decide_true, decide_false, cond_true, cond_false]
    unfold iI
    simp only [nV, Int.toNat_natCast, qj, hop, Int.reduceEq, decide_true, decide_false, cond_true, cond_false]
    unfold ng
    simp only [hop, Int.reduceEq, if_true, if_false]
    rw [(h.reg hr).1, bnd]
    by_cases hk : (mZ f.regs c.a).kind = 1
    · rw [dT hk, if_pos hk]; exact ⟨_, _, _, rfl, rfl, rfl, rfl⟩
    · rw [dF hk, if_neg hk]; exact ⟨_, _, _, rfl, rfl⟩
  · rw [hop]
    simp only [Int.reduceEq, decide_true, decide_false, cond_true, cond_false]
    unfold iI
    simp only [nV, Int.toNat_natCast, qj, hop, Int.reduceEq, decide_true, decide_false, cond_true, cond_false]
    unfold ng
    simp only [hop, Int.reduceEq, if_true, if_false]
    rw [(h.reg hr).1, bnd]
    by_cases hk : (mZ f.regs c.a).kind = 1
    · rw [dF (by omega), cond_false, if_pos hk]; exact ⟨_, _, _, rfl, rfl, rfl, rfl⟩
    · rw [dT hk, cond_true, if_neg hk]; exact ⟨_, _, _, rfl, rfl⟩
  · rw [hop]
    simp only [Int.reduceEq, decide_true, decide_false, cond_true, cond_false]
    unfold iI
    simp only [nV, Int.toNat_natCast, qj, hop, Int.reduceEq, decide_true, decide_false, cond_true, cond_false]
    unfold ng
    simp only [hop, Int.reduceEq, if_true, if_false]
    have hv := h.reg hr
    rw [hv.1, bnd]
    have hval := hv.2
    unfold gT at hval
    by_cases hk : (mZ f.regs c.a).kind ≠ 2 ∧ (mZ f.regs c.a).n = 0
    · rw [if_pos hk, show (decide ((mZ f.regs c.a).kind = 0) || (decide ((mZ f.regs c.a).kind = 1) && decide ((mZ f.regs c.a).n = 0))) = true by simp; omega, cond_true]
      exact ⟨_, _, _, rfl, rfl, rfl, rfl⟩
    · rw [if_neg hk, show (decide ((mZ f.regs c.a).kind = 0) || (decide ((mZ f.regs c.a).kind = 1) && decide ((mZ f.regs c.a).n = 0))) = false by rw [Bool.or_eq_false_iff, Bool.and_eq_false_iff]; simp only [decide_eq_false_iff_not]; omega, cond_false]
      exact ⟨_, _, _, rfl, rfl, rfl, rfl⟩
  · rw [hop]
    simp only [Int.reduceEq, decide_true, decide_false, cond_true, cond_false]
    unfold iI
    simp only [nV, Int.toNat_natCast, qj, hop, Int.reduceEq, decide_true, decide_false, cond_true, cond_false]
    unfold ng
    simp only [hop, Int.reduceEq, if_true, if_false]
    exact ⟨_, _, _, rfl, rfl, rfl, rfl⟩
  · rw [hop]
    simp only [Int.reduceEq, decide_true, decide_false, cond_true, cond_false]
    unfold iI
    simp only [nV, Int.toNat_natCast, qj, hop, Int.reduceEq, decide_true, decide_false, cond_true, cond_false]
    unfold ng
    simp only [hop, Int.reduceEq, if_true, if_false]
    exact ⟨_, _, _, rfl, rfl, rfl, rfl⟩
theorem Nb (ha : nT a) (hN : 100 ≤ N) (h : p8 a pre f cells x c) : R1 (nR N ⟨pre ++ [f], cells, st, wh⟩ a) (ng a pre f cells st wh x c) := by
  rcases h.good with g | g | g | g | g | g | g | g | g | g
  · exact step1 h g.1 g.2.1
  · exact step2 h g.1 g.2.1 g.2.2
  · obtain ⟨g1, g2, g3, g4, n, g5, g6, g7⟩ := g
    exact aas h g1 g2 g3 g4 g5 ⟨g6, g7⟩
  · obtain ⟨g1 | g1, g2, g3, g4⟩ := g
    · exact PS h g1 g2 g3 g4
    · exact PT h g1 g2 g3 g4
  · exact aat ha hN h g.1 g.2.1 g.2.2
  · obtain ⟨g1, g2, ⟨p, g3, g4⟩, g5⟩ := g
    exact aau ha h g1 g2 g3 g4 g5
  · obtain ⟨g1 | g1 | g1, g2⟩ := g
    · exact aav ha h g1 g2
    · exact yw h (.inl ⟨.inl g1, g2⟩)
    · exact yw h (.inl ⟨.inr (.inl g1), g2⟩)
  · exact yw h (.inr (.inl g))
  · exact yw h (.inr (.inr g.1))
  · exact yw h (.inl ⟨.inr (.inr g.1), g.2.1⟩)
end
end Go.Proofs.YtfclkapelkhlpaaGreatDoor
namespace Go.Proofs.YtfclkapelkhlpaaGreatDoor
open Go Go.Proofs Go.LX
theorem gT.up {n m : Nat} {v : Val} (h : gT n v) (hm : n ≤ m) : gT m v := by unfold gT at *; omega
theorem xx.up {a : List cz} {n m : Nat} {f : LX.Frame} {x : cz} (h : xx a n f x) (hm : n ≤ m) : xx a m f x := ⟨h.proc, h.at_, h.regs, fun v hv => (h.vals v hv).up hm⟩
theorem Aq {a : List cz} {n m : Nat} (hm : n ≤ m) : ∀ {l : List LX.Frame} {t : Int}, je a n t l → je a m t l
  | [], _, _ => trivial
  | f :: l, t, h => by obtain ⟨⟨x, g⟩, h2, h3⟩ := h; exact ⟨⟨x, g.up hm⟩, h2, Aq hm h3⟩
theorem SV {n : Nat} {l : List Int} {v : Val} (h : gT n v) (hr : v.kind = 2 → v.n ∈ l) : gT l.length (ren l v) := by
  unfold ren
  by_cases hk : v.kind = 2
  · rw [if_pos hk]
    have := List.idxOf_lt_length_of_mem (hr hk)
    unfold gT
    simp only
    omega
  · rw [if_neg hk]; unfold gT at *; omega
theorem xx.ren {a : List cz} {n : Nat} {l : List Int} {f : LX.Frame} {x : cz} (h : xx a n f x) (hr : nU f.regs l) : xx a l.length (GV l f) x where
  proc := h.proc
  at_ := h.at_
  regs := by unfold GV; simpa using h.regs
  vals v hv := by
    unfold GV at hv
    simp only [List.mem_map] at hv
    obtain ⟨w, hw, rfl⟩ := hv
    exact SV (h.vals w hw) (hr w hw)
theorem Dh {a : List cz} {n : Nat} {r : List Int} : ∀ {l : List LX.Frame} {t : Int}, je a n t l → (∀ f ∈ l, nU f.regs r) → je a r.length t (l.map (GV r))
  | [], _, _, _ => trivial
  | f :: l, t, h, hr => by
    obtain ⟨⟨x, g⟩, h2, h3⟩ := h
    refine ⟨⟨x, g.ren (hr f (by simp))⟩, h2, ?_⟩
    have := Dh h3 (fun k hk => hr k (List.mem_cons_of_mem _ hk))
    simpa [GV] using this
theorem Lu {s : LX.State} (h : GX s) : ma (pY s).cells := by
  have hr := h.reach
  have hl := hr.1.len
  have hn := h.cells.1
  refine ⟨by simp [pY]; omega, fun c hc => ?_⟩
  unfold pY at hc ⊢
  simp only [List.mem_map, List.length_map] at hc ⊢
  obtain ⟨k, hk, rfl⟩ := hc
  have hk2 := h.cells.at (hr.1.2 k hk)
  refine ⟨by simpa using hk2.1, fun v hv => ?_⟩
  obtain ⟨w, hw, rfl⟩ := List.mem_map.1 hv
  exact SV (hk2.2 w hw) (hr.2.2 k hk w hw)
theorem SX {a : List cz} (ha : nT a) {s : LX.State} (h : uQ a s) : uQ a (pY s) where
  status := h.status
  aV := h.aV
  stay := h.stay
  ended := by rw [show (pY s).status = s.status from rfl, h.ended]; simp [pY]
  many := by simpa [pY] using h.many
  cells := Lu (h.sw ha)
  frames := by
    have hr := (h.sw ha).reach
    have := Dh h.frames (Lm hr.2.1)
    simpa [pY] using this
theorem Lv {n : Nat} {r : List Val} {i : Nat} {v : Val} (h : ∀ w ∈ r, gT n w) (hv : gT n v) : ∀ w ∈ r.set i v, gT n w := fun w hw => by
  rcases List.mem_or_eq_of_mem_set hw with hw | rfl
  · exact h w hw
  · exact hv
section
variable {a : List cz} {pre : List LX.Frame} {f : LX.Frame} {cells : List (List Val)} {wh : Int} {x : cz} {c : Ins} {N : Nat}
theorem p8.st (h : p8 a pre f cells x c) {g : LX.Frame} {y : cz} {cs : List (List Val)} {s w : Int} (hg : xx a cs.length g y) (hto : g.l6 = f.l6) (hc : ma cs) (hl : cells.length ≤ cs.length) (hs : (s = 0 ∧ w = 0) ∨ (s = 3 ∧ -1000000000 ≤ w ∧ w ≤ 1000000000)) : uQ a ⟨pre ++ [g], cs, s, w⟩ where
  status := by simp only; omega
  aV := by simp only; omega
  stay := by simp only; omega
  ended := by simp; omega
  many := by have := h.many; simp; omega
  cells := hc
  frames := j6.2 ⟨Aq hl h.chain, ⟨y, hg⟩, by rw [hto]; exact h.l6⟩
theorem Xy {n : Nat} {k : Int} {b c v : Val} (hk : 1 ≤ k ∧ k ≤ 5) (h : Xu k b c = some v) : gT n v := by
  unfold Xu at h
  split at h
  · cases h; split <;> (unfold gT; simp)
  split at h
  · cases h
  split at h
  · cases h; split <;> (unfold gT; simp)
  simp only at h
  generalize (if k = 1 then b.n + c.n else if k = 2 then b.n - c.n else b.n * c.n) = z at h
  split at h
  · rename_i hz; cases h; exact .inr (.inl ⟨rfl, hz.1, hz.2⟩)
  · cases h
theorem xx.put {n : Nat} {f : LX.Frame} {x : cz} (h : xx a n f x) {i : Nat} {v : Val} (hv : gT n v) : xx a n { f with regs := f.regs.set i v } x := ⟨h.proc, h.at_, by simpa using h.regs, Lv h.vals hv⟩
theorem xx.jump {n : Nat} {f : LX.Frame} {x : cz} (h : xx a n f x) {b : Int} (hb : 0 ≤ b ∧ b < x.code.length) : xx a n { f with at_ := b } x := ⟨h.proc, hb, h.regs, h.vals⟩
theorem Od {s t : LX.State} {g : LX.Frame} (h : Lp ⟨pre ++ [g], cells, 0, wh⟩ c = some t) (hs : uQ a ⟨pre ++ [g], cells, 0, wh⟩) (hb : 1 ≤ c.b ∧ c.b ≤ 4) : uQ a t ∧ t.status = 0 := by
  unfold Lp at h
  split at h
  · cases h
  rename_i h24
  simp only [List.dropLast_concat, List.getLast?_append, List.getLast?_singleton, Option.some_or, Option.map_some, Option.toList_some] at h h24
  cases h
  obtain ⟨h1, ⟨x, h2⟩, h3⟩ := j6.1 hs.frames
  have hc := hs.cells
  simp only at h1 h2 h3 hc
  have hle : cells.length ≤ (cells ++ [List.replicate c.b.toNat (⟨0, 0⟩ : Val)]).length := by simp
  refine ⟨⟨hs.status, hs.aV, hs.stay, by simp, by simpa using hs.many, ⟨?_, ?_⟩, j6.2 ⟨Aq hle h1, ⟨x, (h2.up hle).put ?_⟩, h3⟩⟩, rfl⟩
  · have := hc.1; simp; omega
  · intro d hd
    rcases List.mem_append.1 hd with hd | hd
    · have := hc.2 d hd
      exact ⟨this.1, fun v hv => (this.2 v hv).up hle⟩
    · simp at hd; subst hd
      refine ⟨by simp; omega, fun v hv => ?_⟩
      have := List.eq_of_mem_replicate hv
      subst this
      unfold gT; simp
  · unfold gT; simp; try omega
theorem Nc (ha : nT a) (h : p8 a pre f cells x c) (hw : wh = 0) {t : LX.State} {said : Option Int} {p : Bool} (hs : ng a pre f cells 0 wh x c = some (t, said, p)) :
    uQ a t ∧ (t.status = 0 ∨ t.status = 1 ∧ p = false ∨ t.status = 3 ∧ p = true) ∧ (said.isSome → t.status = 0 ∧ c.op = 9) := by
  subst hw
  have PV := h.Hw
  have hput : ∀ {v : Val}, gT cells.length v → uQ a ⟨pre ++ [{ Hw f x with regs := f.regs.set c.a.toNat v }], cells, 0, 0⟩ := fun hv => h.st (PV.put hv) rfl h.Lr (Nat.le_refl _) (.inl ⟨rfl, rfl⟩)
  have I4 : uQ a ⟨pre ++ [Hw f x], cells, 0, 0⟩ := h.st PV rfl h.Lr (Nat.le_refl _) (.inl ⟨rfl, rfl⟩)
  have Vo : (0 ≤ c.b ∧ c.b < x.code.length) → uQ a ⟨pre ++ [{ Hw f x with at_ := c.b }], cells, 0, 0⟩ := fun hb => h.st (PV.jump hb) rfl h.Lr (Nat.le_refl _) (.inl ⟨rfl, rfl⟩)
  unfold ng at hs
  rcases h.good with g | g | g | g | g | g | g | g | g | g
  · obtain ⟨hop, hr, hb⟩ := g
    simp only [hop, Int.reduceEq, if_true, if_false] at hs
    cases hs
    exact ⟨hput (.inr (.inl ⟨rfl, hb.1, hb.2⟩)), .inl rfl, by simp⟩
  · obtain ⟨hop, hr, hb⟩ := g
    simp only [hop, Int.reduceEq, if_true, if_false] at hs
    cases hs
    exact ⟨hput (h.reg hb).2, .inl rfl, by simp⟩
  · obtain ⟨hop, hr, hb, hc, n, hn, hn1⟩ := g
    simp only [hop, hn, Int.reduceEq, if_true, if_false, List.headD_cons] at hs
    obtain ⟨v, hv, hs⟩ := Option.map_eq_some_iff.1 hs
    cases hs
    exact ⟨hput (Xy hn1 hv), .inl rfl, by simp⟩
  · obtain ⟨hop, hr, hb, hc⟩ := g
    rcases hop with hop | hop
    · simp only [hop, Int.reduceEq, if_true, if_false] at hs
      split at hs
      · cases hs
      · rename_i hbad
        cases hs
        have hk : (mZ f.regs c.b).kind = 2 := by omega
        have hv := (h.reg hb).2
        have hcell := h.Lr.at (hv.ref hk)
        exact ⟨hput (hcell.2 _ (Ap rfl ⟨hc.1, by omega⟩).2), .inl rfl, by simp⟩
    · simp only [hop, Int.reduceEq, if_true, if_false] at hs
      split at hs
      · cases hs
      · rename_i hbad
        cases hs
        have hk : (mZ f.regs c.a).kind = 2 := by omega
        have hv := (h.reg hr).2
        have hcell := h.Lr.at (hv.ref hk)
        refine ⟨h.st (by simpa using PV) rfl ⟨by simpa using h.Lr.1, fun d hd => ?_⟩ (by simp) (.inl ⟨rfl, rfl⟩), .inl rfl, by simp⟩
        rw [List.length_set]
        rcases List.mem_or_eq_of_mem_set hd with hd | rfl
        · exact h.Lr.2 d hd
        · exact ⟨by simpa using hcell.1, Lv hcell.2 (h.reg hb).2⟩
  · obtain ⟨hop, hr, hb⟩ := g
    simp only [hop, Int.reduceEq, if_true, if_false] at hs
    obtain ⟨u, hu, hs⟩ := Option.map_eq_some_iff.1 hs
    cases hs
    split at hu
    · have hsw := SX ha I4
      rw [IZ] at hu hsw
      have := Od (s := t) hu hsw hb
      exact ⟨this.1, .inl this.2, by simp⟩
    · have := Od (s := t) hu I4 hb
      exact ⟨this.1, .inl this.2, by simp⟩
  · obtain ⟨hop, hr, ⟨p1, hp, hl⟩, hargs⟩ := g
    simp only [hop, Int.reduceEq, if_true, if_false] at hs
    split at hs
    · cases hs
    · rename_i h10
      cases hs
      have hpr := ha.mem hp
      have hm := h.many
      refine ⟨⟨by simp, by simp, by simp, by simp, by simp; omega, h.Lr, j6.2 ⟨I4.frames, ⟨p1, ⟨hp, ?_, ?_, ?_⟩⟩, ?_⟩⟩, .inl rfl, by simp⟩
      · have := hpr.2.2.2; unfold qi at this; simp only; omega
      · simp only [hp, Option.map_some, Option.getD_some, List.length_append, List.length_map, List.length_replicate]; omega
      · intro v hv
        rcases List.mem_append.1 hv with hv | hv
        · obtain ⟨k, hk, rfl⟩ := List.mem_map.1 hv
          exact (h.reg (hargs k hk)).2
        · have := List.eq_of_mem_replicate hv
          subst this; unfold gT; simp
      · simp only [List.getLast?_append, List.getLast?_singleton, Option.some_or]
        have h1 := PV.regs
        rw [h1]; exact hr
  · obtain ⟨hop, hr⟩ := g
    rcases hop with hop | hop | hop
    · simp only [hop, Int.reduceEq, if_true, if_false] at hs
      rcases List.eq_nil_or_concat pre with hp | ⟨q, g, hp⟩
      · subst hp
        simp only [List.getLast?_nil] at hs
        cases hs
        exact ⟨⟨by simp, by simp, by simp, by simp, by simp, h.Lr, trivial⟩, .inr (.inl ⟨rfl, rfl⟩), by simp⟩
      · rw [List.concat_eq_append] at hp
        subst hp
        simp only [List.getLast?_append, List.getLast?_singleton, Option.some_or, List.dropLast_concat] at hs
        cases hs
        obtain ⟨c1, ⟨y, c2⟩, c3⟩ := j6.1 h.chain
        have hm := h.many
        simp only [List.length_append, List.length_cons, List.length_nil] at hm
        exact ⟨⟨by simp, by simp, by simp, by simp, by simp; omega, h.Lr, j6.2 ⟨c1, ⟨y, c2.put (h.reg hr).2⟩, c3⟩⟩, .inl rfl, by simp⟩
    · simp only [hop, Int.reduceEq, if_true, if_false] at hs
      split at hs
      · cases hs; exact ⟨I4, .inl rfl, fun _ => ⟨rfl, hop⟩⟩
      · cases hs
    · simp only [hop, Int.reduceEq, if_true, if_false] at hs
      split at hs
      · rename_i hk
        cases hs
        exact ⟨h.st PV rfl h.Lr (Nat.le_refl _) (.inr ⟨rfl, (h.reg hr).2.int hk⟩), .inr (.inr ⟨rfl, rfl⟩), by simp⟩
      · cases hs
  · simp only [g, Int.reduceEq, if_true, if_false] at hs
    cases hs; exact ⟨I4, .inl rfl, by simp⟩
  · obtain ⟨hop, hb⟩ := g
    simp only [hop, Int.reduceEq, if_true, if_false] at hs
    cases hs; exact ⟨Vo hb, .inl rfl, by simp⟩
  · obtain ⟨hop, hr, hb⟩ := g
    simp only [hop, Int.reduceEq, if_true, if_false] at hs
    cases hs
    split
    · exact ⟨Vo hb, .inl rfl, by simp⟩
    · exact ⟨I4, .inl rfl, by simp⟩
end
end Go.Proofs.YtfclkapelkhlpaaGreatDoor
namespace Go.Proofs.YtfclkapelkhlpaaGreatDoor
open Go Go.Proofs Go.LX
def Oe (a : List cz) (f : LX.Frame) : Option (cz × Ins) := (idx a f.proc).bind fun x => (idx x.code f.at_).map fun c => (x, c)
def Bu (a : List cz) (s : LX.State) : Option (LX.State × Option Int × Bool) :=
  s.frames.getLast?.bind fun f => (Oe a f).bind fun q => ng a s.frames.dropLast f s.cells s.status s.aV q.1 q.2
def Di (a : List cz) (s : LX.State) : Int := ((s.frames.getLast?.bind fun f => Oe a f).map fun q => q.2.op).getD 0
def tL (a : List cz) : Nat → List Int → Nat → LX.State → LX.State × List Int × Nat
  | 0, said, n, s => (s, said, n)
  | m + 1, said, n, s =>
    if s.status ≠ 0 then (s, said, n) else
    if said.length = 40 ∧ Di a s = 9 then (s, said, n) else
    match Bu a s with
    | none => ({ s with status := 2 }, said, n + 1)
    | some (t, o, p) => if p then (t, said ++ o.toList, n + 1) else tL a m (said ++ o.toList) (n + 1) t
theorem EC {a : List cz} (ha : nT a) {s : LX.State} (h : uQ a s) (hs : s.status = 0) : ∃ pre f x c, s = ⟨pre ++ [f], s.cells, 0, 0⟩ ∧ p8 a pre f s.cells x c ∧ Bu a s = ng a pre f s.cells 0 0 x c ∧ Di a s = c.op := by
  obtain ⟨fr, cells, st, wh⟩ := s
  simp only at hs
  subst hs
  have hw : wh = 0 := h.stay (by simp)
  subst hw
  rcases List.eq_nil_or_concat fr with hp | ⟨pre, f, hp⟩
  · have := h.ended.2 hp; simp at this
  · rw [List.concat_eq_append] at hp
    subst hp
    obtain ⟨x, c, g⟩ := Xw ha h
    refine ⟨pre, f, x, c, rfl, g, ?_, ?_⟩
    · unfold Bu Oe
      simp only [List.getLast?_append, List.getLast?_singleton, Option.some_or, List.dropLast_concat, bnd, g.fr.proc, g.ins, Option.map_some]
    · unfold Di Oe
      simp only [List.getLast?_append, List.getLast?_singleton, Option.some_or, bnd, g.fr.proc, g.ins, Option.map_some, Option.getD_some]
theorem PW {a : List cz} (ha : nT a) {s : LX.State} (h : uQ a s) (hs : s.status = 0) {N : Nat} (hN : 100 ≤ N) : R1 (nR N s a) (Bu a s) := by
  obtain ⟨pre, f, x, c, h1, h2, h3, -⟩ := EC ha h hs
  rw [h3]
  generalize s.cells = cells at *
  subst h1
  exact Nb ha hN h2
theorem EO {a : List cz} (ha : nT a) {s : LX.State} (h : uQ a s) (hs : s.status = 0) {t : LX.State} {o : Option Int} {p : Bool} (hq : Bu a s = some (t, o, p)) :
    uQ a t ∧ (t.status = 0 ∨ t.status = 1 ∧ p = false ∨ t.status = 3 ∧ p = true) ∧ (o.isSome → t.status = 0 ∧ Di a s = 9) := by
  obtain ⟨pre, f, x, c, h1, h2, h3, h4⟩ := EC ha h hs
  rw [h3] at hq
  rw [h4]
  exact Nc ha h2 rfl hq
theorem PX {a : List cz} (ha : nT a) {s : LX.State} (h : uQ a s) (hs : s.status = 0) : (s.frames.length ≤ 10 ∧ 1 ≤ s.frames.length) ∧ ∃ f x c, idx s.frames ((s.frames.length : Int) - 1) = some f ∧ idx a f.proc = some x ∧ idx x.code f.at_ = some c ∧ c.op = Di a s := by
  obtain ⟨pre, f, x, c, h1, h2, h3, h4⟩ := EC ha h hs
  refine ⟨⟨h.many, by rw [h1]; simp⟩, f, x, c, ?_, h2.fr.proc, h2.ins, h4.symm⟩
  have : s.frames = pre ++ [f] := by rw [h1]
  rw [this, nV, Df]
theorem UF {a : List cz} {s : LX.State} (h : uQ a s) (hs : s.status = 0) : uQ a { s with status := 2 } := by
  have hw : s.aV = 0 := h.stay (by omega)
  refine ⟨by simp, h.aV, fun _ => hw, ?_, h.many, h.cells, h.frames⟩
  constructor
  · intro e; simp at e
  · intro e
    have := h.ended.2 e
    omega
theorem Lx {a : List cz} (ha : nT a) {N : Nat} (hN : 100 ≤ N) (c : Int) : ∀ (m M : Nat) (said : List Int) (n : Nat) (s : LX.State), uQ a s → said.length ≤ 40 → c = (n : Int) + m → c ≤ 2000 → m < M →
    again (qU N c a) M (said, (n : Int), s.frames, s.cells, s.status, s.aV) = some ((tL a m said n s).1, (tL a m said n s).2.1, ((tL a m said n s).2.2 : Int), 0)
  | m, 0, said, n, s, h, hl, hc, hb, hM => by omega
  | 0, M + 1, said, n, s, h, hl, hc, hb, hM => by
    rw [J2]
    unfold qU rC tL
    simp only
    rw [show (decide ((n : Int) < c) && decide ((s.status : Int) = 0)) = false by rw [dF (by omega)]; rfl, cond_false]
  | m + 1, M + 1, said, n, s, h, hl, hc, hb, hM => by
    rw [J2]
    have ih := Lx ha hN c m M
    generalize again (qU N c a) M = K at ih ⊢
    unfold qU tL
    simp only
    by_cases hs : s.status = 0
    · rw [dT (by omega), dT hs, Bool.true_and, cond_true, if_neg (by omega)]
      obtain ⟨hfr, f, x, i, r1, r2, r3, r4⟩ := PX ha h hs
      rw [gI (by omega) (by omega), r1, bnd]
      have go : wD N said n s.frames s.cells s.status s.aV a K false = some (match Bu a s with
          | none => ({ s with status := 2 }, said, ((n + 1 : Nat) : Int), 0)
          | some (t, o, p) => if p then (t, said ++ o.toList, ((n + 1 : Nat) : Int), 0) else ((tL a m (said ++ o.toList) (n + 1) t).1, (tL a m (said ++ o.toList) (n + 1) t).2.1, ((tL a m (said ++ o.toList) (n + 1) t).2.2 : Int), 0)) ∨ (said.length = 40 ∧ Di a s = 9) := by
        by_cases hstop : said.length = 40 ∧ Di a s = 9
        · exact .inr hstop
        left
        unfold wD
        rw [cond_false, show (⟨s.frames, s.cells, s.status, s.aV⟩ : LX.State) = s from rfl, copy_eq (h.small ha), bnd]
        obtain ⟨o, ok, s', e1, e2⟩ := PW ha h hs hN
        rw [e1, bnd, gI (by omega) (by omega)]
        cases eq : Bu a s with
        | none =>
          rw [eq] at e2
          simp only at e2
          subst e2
          simp only [Bool.not_false, cond_true]
          unfold rC
          push_cast; rfl
        | some q =>
          obtain ⟨t, o2, p⟩ := q
          rw [eq] at e2
          obtain ⟨rfl, rfl, rfl⟩ := e2
          have hk := EO ha h hs eq
          simp only [Bool.not_true, cond_false]
          have fin : ∀ l, l = said ++ o2.toList → l.length ≤ 40 → wC (⟨o2.isSome, o2.getD 0, p⟩, true, s') n K l = some (if p then (s', said ++ o2.toList, ((n + 1 : Nat) : Int), 0) else ((tL a m (said ++ o2.toList) (n + 1) s').1, (tL a m (said ++ o2.toList) (n + 1) s').2.1, ((tL a m (said ++ o2.toList) (n + 1) s').2.2 : Int), 0)) := by
            intro l hl1 hl2
            subst hl1
            unfold wC rC
            simp only
            cases p with
            | true => rw [cond_true, if_pos rfl]; push_cast; rfl
            | false =>
              rw [cond_false, if_neg (by simp)]
              have := ih (said ++ o2.toList) (n + 1) s' hk.1 hl2 (by push_cast; omega) hb (by omega)
              rw [← this]; push_cast; rfl
          cases o2 with
          | none =>
            simp only [Option.isSome_none, cond_false]
            exact fin said (by simp) hl
          | some z =>
            have h9 := (hk.2.2 rfl).2
            simp only [Option.isSome_some, cond_true]
            rw [zo (room_le (by simp; omega) (by decide))]
            exact fin (said ++ [z]) (by simp) (by simp; omega)
      by_cases X8 : said.length = 40
      · rw [dT (by omega), cond_true, r2, bnd, r3, bnd, r4]
        by_cases h9 : Di a s = 9
        · rw [if_pos ⟨X8, h9⟩, dT h9]; rfl
        · rw [if_neg (fun e => h9 e.2), dF h9]
          rcases go with go | go
          · rw [go]; cases Bu a s with
            | none => rfl
            | some q => obtain ⟨t, o, p⟩ := q; cases p <;> rfl
          · exact absurd go.2 h9
      · rw [dF (by omega), cond_false, if_neg (fun e => X8 e.1)]
        rcases go with go | go
        · rw [go]; cases Bu a s with
          | none => rfl
          | some q => obtain ⟨t, o, p⟩ := q; cases p <;> rfl
        · exact absurd go.1 X8
    · rw [dF hs, Bool.and_false, cond_false, if_pos hs]; rfl
theorem I5 {a : List cz} (ha : nT a) : ∀ (m : Nat) (said : List Int) (n : Nat) (s : LX.State), uQ a s → said.length ≤ 40 →
    uQ a (tL a m said n s).1 ∧ (tL a m said n s).2.1.length ≤ 40 ∧ n ≤ (tL a m said n s).2.2 ∧ (tL a m said n s).2.2 ≤ n + m ∧ said <+: (tL a m said n s).2.1 ∧ (tL a m said n s).2.1.length ≤ said.length + ((tL a m said n s).2.2 - n) ∧ ((tL a m said n s).2.2 = n → (tL a m said n s).1 = s)
  | 0, said, n, s, h, hl => ⟨h, hl, Nat.le_refl _, Nat.le_refl _, List.prefix_refl _, by simp [tL], fun _ => rfl⟩
  | m + 1, said, n, s, h, hl => by
    unfold tL
    by_cases hs : s.status = 0
    · rw [if_neg (by omega)]
      by_cases X8 : said.length = 40 ∧ Di a s = 9
      · rw [if_pos X8]; exact ⟨h, hl, Nat.le_refl _, by simp, List.prefix_refl _, by simp, fun _ => rfl⟩
      · rw [if_neg X8]
        cases eq : Bu a s with
        | none => exact ⟨UF h hs, hl, by simp, by simp, List.prefix_refl _, by simp, fun e => by simp at e⟩
        | some q =>
          obtain ⟨t, o, p⟩ := q
          have hk := EO ha h hs eq
          have hlen : (said ++ o.toList).length ≤ 40 := by
            cases o with
            | none => simpa using hl
            | some z => have h9 := (hk.2.2 rfl).2; simp; omega
          have ho : o.toList.length ≤ 1 := by cases o <;> simp
          simp only
          split
          · exact ⟨hk.1, hlen, by simp, by simp, List.prefix_append _ _, by show (said ++ o.toList).length ≤ said.length + (n + 1 - n); rw [List.length_append]; omega, fun e => by simp at e⟩
          · obtain ⟨i1, i2, i3, i4, i5, i6, i7⟩ := I5 ha m (said ++ o.toList) (n + 1) t hk.1 hlen
            refine ⟨i1, i2, by omega, by omega, (List.prefix_append _ _).trans i5, ?_, fun e => by omega⟩
            rw [List.length_append] at i6; omega
    · rw [if_pos hs]; exact ⟨h, hl, Nat.le_refl _, by simp, List.prefix_refl _, by simp, fun _ => rfl⟩
theorem I6 (a : List cz) (s : LX.State) (c : Int) {N : Nat} (hN : 3000 ≤ N) : Aj N a s c = some (if SF a ≠ 0 then (⟨[], [], 0, 0⟩, [], 0, SF a) else if Tm a s ≠ 0 then (⟨[], [], 0, 0⟩, [], 0, Tm a s) else if c < 0 ∨ 2000 < c then (⟨[], [], 0, 0⟩, [], 0, 3) else if s.status ≠ 0 then (⟨[], [], 0, 0⟩, [], 0, 7) else ((tL a c.toNat [] 0 s).1, (tL a c.toNat [] 0 s).2.1, ((tL a c.toNat [] 0 s).2.2 : Int), 0)) := by
  unfold Aj
  rw [EN, bnd]
  by_cases h1 : SF a = 0
  · rw [if_neg (by omega), if_neg (by omega)]
    by_cases h2 : Tm a s = 0
    · rw [dF (by omega), cond_false, if_neg (by omega)]
      by_cases h3 : c < 0 ∨ 2000 < c
      · rw [show (decide ((c : Int) < 0) || decide ((2000 : Int) < c)) = true by rw [Bool.or_eq_true]; simp only [decide_eq_true_eq]; exact h3, cond_true, if_pos h3]
      · rw [show (decide ((c : Int) < 0) || decide ((2000 : Int) < c)) = false by rw [Bool.or_eq_false_iff]; simp only [decide_eq_false_iff_not]; omega, cond_false, if_neg h3]
        by_cases h4 : s.status = 0
        · rw [dF (by omega), cond_false, if_neg (by omega)]
          have ha := Ld h1
          have hs := J3.1 h2
          rw [copy_eq (hs.small ha), bnd]
          have := Lx ha (N := N) (by omega) c c.toNat N [] 0 s hs (by simp) (by omega) (by omega) (by omega)
          exact this
        · rw [dT h4, cond_true, if_pos h4]
    · rw [dT h2, cond_true, if_pos h2]
  · rw [if_pos h1, if_pos h1, dT h1, cond_true]
end Go.Proofs.YtfclkapelkhlpaaGreatDoor
namespace Go.Proofs.YtfclkapelkhlpaaGreatDoor
open Go Go.Proofs Go.LX
theorem SY : 3000 ≤ NN := by decide
theorem vmKeeps (a : List cz) (b : LX.State) (c : Int) : ∃ N, qz N a b c = some true := by
  refine ⟨NN, ?_⟩
  unfold qz
  rw [I6 a b c SY, bnd, Xo, bnd, bnd]
  by_cases h1 : SF a = 0
  · rw [if_neg (by omega)]
    by_cases h2 : Tm a b = 0
    · rw [if_neg (by omega)]
      by_cases h3 : c < 0 ∨ 2000 < c
      · rw [if_pos h3]; rfl
      · rw [if_neg h3]
        by_cases h4 : b.status = 0
        · rw [if_neg (by omega)]
          have ha := Ld h1
          obtain ⟨k1, k2, k3, k4, k5, k6, k7⟩ := I5 ha c.toNat [] 0 b (J3.1 h2) (by simp)
          generalize tL a c.toNat [] 0 b = q at *
          obtain ⟨t, said, n⟩ := q
          simp only at *
          rw [show ((!true) || decide ((0 : Int) ≠ 0)) = false by simp, cond_false, EN, if_neg (by omega), J3.2 k1, bnd]
          rw [show ((((decide ((0 : Int) ≠ 0) || decide (((n : Int) : Int) < 0)) || decide ((c : Int) < (n : Int))) || decide (((n : Int) : Int) < (said.length : Int))) || decide ((40 : Int) < (said.length : Int))) = false by
            simp only [Bool.or_eq_false_iff, decide_eq_false_iff_not]; simp only [List.length_nil] at k6; omega, cond_false]
          have fin : iq NN (t, said, (n : Int), 0) a c false = some true := by
            unfold iq
            rw [cond_false]
            by_cases h5 : t.status = 0
            · rw [dF (by simpa using h5), cond_false]
            · rw [dT h5, cond_true, I6 a t c SY, bnd, if_neg (by omega), if_neg (by rw [J3.2 k1]; omega), if_neg h3, if_pos h5]; rfl
          by_cases h0 : n = 0
          · rw [dT (by omega), cond_true, UD, bnd, dT (k7 h0), Bool.not_true]; exact fin
          · rw [dF (by omega), cond_false]; exact fin
        · rw [if_pos h4]; rfl
    · rw [if_pos h2]
      simp only
      rw [show ((!true) || decide ((Tm a b : Int) ≠ 0)) = true by simp [h2], cond_true]
  · rw [if_pos h1]
    simp only
    rw [show ((!true) || decide ((SF a : Int) ≠ 0)) = true by simp [h1], cond_true]
end Go.Proofs.YtfclkapelkhlpaaGreatDoor
