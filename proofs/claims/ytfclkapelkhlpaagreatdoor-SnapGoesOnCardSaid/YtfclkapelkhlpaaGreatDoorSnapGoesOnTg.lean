/-
  What the law SnapGoesOn needs of our own library and of the walks, no more.
-/
import Derived.Test.YtfclkapelkhlpaaGreatDoorProg
import Derived.Test.YtfclkapelkhlpaaGreatDoorSnapGoesOnTf
set_option linter.unusedSimpArgs false
set_option linter.unusedVariables false
set_option maxRecDepth 10000
namespace Go.Proofs.YtfclkapelkhlpaaGreatDoor
open Go Go.Proofs Go.LX
def ren (l : List Int) (v : Val) : Val := if v.kind = 2 then ⟨v.kind, (l.idxOf v.n : Nat)⟩ else v
def zS (l : List Int) (f : LX.Frame) : LX.Frame := { f with regs := f.regs.map (ren l) }
def roots (fr : List LX.Frame) : List Val := fr.flatMap (·.regs)
def di (s : LX.State) : List Int := Dk s.cells (roots s.frames)
def cZ (s : LX.State) : LX.State := ⟨s.frames.map (zS (di s)), (di s).map (fun k => (cellAt s.cells k).map (ren (di s))), s.status, s.aQ⟩
structure Dm (s : LX.State) : Prop where
  small : Small s
  cells : nY s.cells
  vals : ∀ f ∈ s.frames, ∀ v ∈ f.regs, ik s.cells.length v
theorem sG.sw {a : List bQ} {s : LX.State} (h : sG a s) (ha : mo a) : Dm s where
  small := h.small ha
  cells := h.cells
  vals f hf := by obtain ⟨x, g⟩ := vw h.frames f hf; exact g.vals
theorem Dm.roots {s : LX.State} (h : Dm s) : ∀ v ∈ roots s.frames, ik s.cells.length v := by
  intro v hv
  unfold YtfclkapelkhlpaaGreatDoor.roots at hv
  obtain ⟨f, hf, hv⟩ := List.mem_flatMap.1 hv
  exact h.vals f hf v hv
theorem UH (fr : List LX.Frame) (h : ∀ f ∈ fr, f.regs.length ≤ 40) : (roots fr).length ≤ 40 * fr.length := by
  induction fr with
  | nil => simp [roots]
  | cons f l ih =>
    have := h f (by simp)
    have := ih (fun g hg => h g (List.mem_cons_of_mem _ hg))
    unfold roots at *
    rw [List.flatMap_cons, List.length_append, List.length_cons]; omega
theorem Dm.rlen {s : LX.State} (h : Dm s) : (YtfclkapelkhlpaaGreatDoor.roots s.frames).length ≤ 400 := by
  have := UH s.frames h.small.regs
  have := h.small.frames
  omega
theorem Dm.reach {s : LX.State} (h : Dm s) : qD s.cells.length (di s) ∧ gq (YtfclkapelkhlpaaGreatDoor.roots s.frames) (di s) ∧ ∀ x ∈ di s, gq (cellAt s.cells x) (di s) := X0 h.cells h.roots
theorem PD {α ρ : Type} {body : Int → List α → (List α → Option ρ) → Option ρ} {K : List α → Option ρ} {g : α → α} {P : α → Prop}
    (hb : ∀ (i : Nat) (x : List α) a nx, x[i]? = some a → P a → body (i : Int) x nx = nx (x.set i (g a))) :
    ∀ (l2 l1 : List α), (∀ a ∈ l2, P a) → upto body K (l1.length : Int) l2.length (l1 ++ l2) = K (l1 ++ l2.map g)
  | [], l1, _ => by simp [upto]
  | a :: l2, l1, h => by
    rw [List.length_cons, Ii, hb l1.length (l1 ++ a :: l2) a _ (by simp) (h a (by simp))]
    have := PD (K := K) hb l2 (l1 ++ [g a]) (fun b hb => h b (List.mem_cons_of_mem _ hb))
    rw [show (l1 ++ a :: l2).set l1.length (g a) = (l1 ++ [g a]) ++ l2 by simp, show ((l1.length : Int) + 1) = ((l1 ++ [g a]).length : Nat) by simp, this]
    simp
theorem Il {α ρ : Type} {body : Int → List α → (List α → Option ρ) → Option ρ} {K : List α → Option ρ} {g : α → α} {P : α → Prop}
    (hb : ∀ (i : Nat) (x : List α) a nx, x[i]? = some a → P a → body (i : Int) x nx = nx (x.set i (g a))) (l : List α) (hp : ∀ a ∈ l, P a) : upto body K 0 l.length l = K (l.map g) := by
  have := PD (K := K) hb l [] hp
  simpa using this
def Kz (l : List Int) (m : List (Int × Int)) : Prop := ∀ k, lk k m = if k ∈ l then some ((l.idxOf k : Nat) : Int) else none
theorem SG {l : List Int} {m : List (Int × Int)} (h : Kz l m) (vs : List Val) (hr : gq vs l) : JZ vs m = some (vs.map (ren l)) := by
  unfold JZ
  rw [Int.toNat_natCast]
  refine Il (P := fun v => v.kind = 2 → v.n ∈ l) (fun i x a nx hx hp => ?_) vs (fun v hv => hr v hv)
  unfold DR DN
  rw [nU, hx, bnd]
  by_cases hk : a.kind = 2
  · rw [dT hk, cond_true, h a.n, if_pos (hp hk)]
    simp [ren, hk]
  · rw [dF hk, cond_false]
    have : x.set i a = x := by
      obtain ⟨h1, rfl⟩ := List.getElem?_eq_some_iff.1 hx
      exact List.set_getElem_self h1
    simp [ren, hk, this]
theorem KA {s : LX.State} (hc : nY s.cells) {K : List (List Val) × List Int × List (Int × Int) → Option LX.State} : ∀ (l2 l1 : List Int) (m : List (Int × Int)), qD s.cells.length (l1 ++ l2) → Kz l1 m →
    ∃ m', Kz (l1 ++ l2) m' ∧ fq (pW s) K (l1.length : Int) l2 (l1.map (cellAt s.cells), l1, m) = K ((l1 ++ l2).map (cellAt s.cells), l1 ++ l2, m')
  | [], l1, m, _, h => ⟨m, by simpa using h, by simp [fq]⟩
  | k :: l2, l1, m, hm, h => by
    have e1 : l1 ++ k :: l2 = (l1 ++ [k]) ++ l2 := by simp
    have hk : k ∉ l1 := by
      intro hk
      exact (List.nodup_append.1 hm.1).2.2 k hk k (by simp) rfl
    have hl := hm.len
    have hn := hc.1
    simp only [List.length_append, List.length_cons] at hl
    have hr := hm.2 k (by simp)
    rw [ja]
    obtain ⟨m', h1, h2⟩ := KA hc (K := K) l2 (l1 ++ [k]) (BF k (l1.length : Int) m) (by rw [← e1]; exact hm) (fun q => by
      rw [NU]
      by_cases e : q = k
      · subst e
        rw [if_pos rfl, if_pos (by simp), List.idxOf_append, if_neg hk]
        simp
      · rw [if_neg e, h q]
        by_cases hq : q ∈ l1
        · rw [if_pos hq, if_pos (by simp [hq]), List.idxOf_append, if_pos hq]
        · rw [if_neg hq, if_neg (by simp [hq, e])])
    refine ⟨m', by rw [e1]; exact h1, ?_⟩
    have hlen : (((l1 ++ [k]).length : Nat) : Int) = (l1.length : Int) + 1 := by simp
    rw [hlen] at h2
    rw [e1, ← h2]
    generalize fq (pW s) K ((l1.length : Int) + 1) l2 = K1
    unfold pW
    simp only
    rw [(Cb hr).1, bnd, tX hk, tX (room_le (by simp; omega) (by decide)), List.map_append]
    rfl
theorem NV {l : List Int} {m : List (Int × Int)} (h : Kz l m) (K : List LX.Frame → Option LX.State) (fr : List LX.Frame) (hr : ∀ f ∈ fr, gq f.regs l) : upto (vk m) K 0 fr.length fr = K (fr.map (zS l)) :=
  Il (P := fun f => gq f.regs l) (fun i x a nx hx hp => by
    unfold vk
    rw [nU, hx, bnd, SG h a.regs hp, bnd]
    simp [zS]) fr hr
theorem PE {l : List Int} {m : List (Int × Int)} (h : Kz l m) (K : List (List Val) → Option LX.State) (cs : List (List Val)) (hr : ∀ c ∈ cs, gq c l) : upto (xk m) K 0 cs.length cs = K (cs.map (fun c => c.map (ren l))) :=
  Il (P := fun c => gq c l) (fun i x a nx hx hp => by
    unfold xk
    rw [nU, hx, bnd, SG h a hp, bnd]
    simp) cs hr
theorem Mh {K : List Val → Option LX.State} : ∀ (fr : List LX.Frame) (acc : List Val), acc.length + (roots fr).length ≤ 1000 → each rG K fr acc = K (acc ++ roots fr)
  | [], acc, _ => by simp [gT, roots]
  | f :: fr, acc, h => by
    have e : roots (f :: fr) = f.regs ++ roots fr := rfl
    rw [e, List.length_append] at h
    rw [dO]
    have ih := Mh (K := K) fr (acc ++ f.regs) (by simp; omega)
    generalize each rG K fr = K1 at ih ⊢
    unfold rG
    rw [tX (room_le (by omega) (by decide)), ih, e, List.append_assoc]
theorem yR {fr : List LX.Frame} {l : List Int} (h : gq (roots fr) l) : ∀ f ∈ fr, gq f.regs l := fun f hf v hv hk => h v (List.mem_flatMap.2 ⟨f, hf, hv⟩) hk
theorem AX {N : Nat} (hN : 100 ≤ N) {s : LX.State} (h : Dm s) : sD N s = some (cZ s) := by
  have hr := h.reach
  unfold sD
  rw [Mh s.frames [] (by have := h.rlen; simp; omega), List.nil_append]
  unfold xY
  rw [X3 hN h.cells h.roots h.rlen, bnd, dF (by simp), cond_false, copy_eq h.small, bnd]
  have e : Dk s.cells (roots s.frames) = di s := rfl
  simp only [e]
  obtain ⟨m', h1, h2⟩ := KA h.cells (K := rF s) (di s) [] [] (by simpa using hr.1) (fun k => by simp [lk])
  have h2' : fq (pW s) (rF s) 0 (di s) ([], ([] : List Int), ([] : List (Int × Int))) = _ := h2
  rw [h2']
  simp only [List.nil_append] at h1 ⊢
  unfold rF
  simp only [Int.toNat_natCast]
  rw [NV h1 _ _ (yR hr.2.1)]
  unfold xX
  rw [Int.toNat_natCast, PE h1 _ _ (fun c hc => by
    obtain ⟨k, hk, rfl⟩ := List.mem_map.1 hc
    exact hr.2.2 k hk)]
  unfold xW cZ
  rw [List.map_map]; rfl
end Go.Proofs.YtfclkapelkhlpaaGreatDoor
namespace Go.Proofs.YtfclkapelkhlpaaGreatDoor
open Go Go.Proofs Go.LX
def gG (r : List Val) (i : Int) : Val := (idx r i).getD ⟨0, 0⟩
def SI (k : Int) (b c : Val) : Option Val :=
  if k = 5 then some ⟨1, if b = c then 1 else 0⟩ else if b.kind ≠ 1 ∨ c.kind ≠ 1 then none else if k = 4 then some ⟨1, if b.n < c.n then 1 else 0⟩ else
  let n := if k = 1 then b.n + c.n else if k = 2 then b.n - c.n else b.n * c.n
  if -1000000000 ≤ n ∧ n ≤ 1000000000 then some ⟨1, n⟩ else none
def zY (f : LX.Frame) (x : bQ) : LX.Frame := { f with at_ := min (f.at_ + 1) ((x.code.length : Int) - 1) }
def Ld (s : LX.State) (c : Ins) : Option LX.State :=
  if s.cells.length = 24 then none else some ⟨s.frames.dropLast ++ (s.frames.getLast?.map fun h => { h with regs := h.regs.set c.a.toNat ⟨2, s.cells.length⟩ }).toList, s.cells ++ [List.replicate c.b.toNat ⟨0, 0⟩], s.status, s.aQ⟩
def mP (a : List bQ) (pre : List LX.Frame) (f : LX.Frame) (cells : List (List Val)) (st wh : Int) (x : bQ) (c : Ins) : Option (LX.State × Option Int × Bool) :=
  let g := zY f x
  let r := gG f.regs
  let put := fun (v : Val) => (⟨pre ++ [{ g with regs := f.regs.set c.a.toNat v }], cells, st, wh⟩ : LX.State)
  let stay := (⟨pre ++ [g], cells, st, wh⟩ : LX.State)
  let jump := (⟨pre ++ [{ g with at_ := c.b }], cells, st, wh⟩ : LX.State)
  let bad := fun (v : Val) => v.kind ≠ 2 ∨ ((cellAt cells v.n).length : Int) ≤ c.c
  if c.op = 1 then some (put ⟨1, c.b⟩, none, false) else
  if c.op = 2 then some (put (r c.b), none, false) else
  if c.op = 3 then (SI (c.args.headD 0) (r c.b) (r c.c)).map fun v => (put v, none, false) else
  if c.op = 4 then (if bad (r c.b) then none else some (put (gG (cellAt cells (r c.b).n) c.c), none, false)) else
  if c.op = 6 then (if bad (r c.a) then none else some (⟨pre ++ [g], cells.set (r c.a).n.toNat ((cellAt cells (r c.a).n).set c.c.toNat (r c.b)), st, wh⟩, none, false)) else
  if c.op = 5 then (Ld (if cells.length = 24 then cZ stay else stay) c).map fun t => (t, none, false) else
  if c.op = 7 then (if pre.length + 1 = 10 then none else some (⟨pre ++ [g] ++ [⟨c.b, 0, c.args.map r ++ List.replicate (((idx a c.b).map (·.regs)).getD 0 - c.args.length).toNat ⟨0, 0⟩, c.a⟩], cells, st, wh⟩, none, false)) else
  if c.op = 8 then some (match pre.getLast? with
    | none => ⟨[], cells, 1, wh⟩
    | some h => ⟨pre.dropLast ++ [{ h with regs := h.regs.set f.kP.toNat (r c.a) }], cells, st, wh⟩, none, false) else
  if c.op = 9 then (if (r c.a).kind = 1 then some (stay, some (r c.a).n, false) else none) else
  if c.op = 11 then (if (r c.a).kind = 1 then some (⟨pre ++ [g], cells, 3, (r c.a).n⟩, none, true) else none) else
  if c.op = 12 then some (jump, none, false) else
  if c.op = 13 then some (if (r c.a).kind ≠ 2 ∧ (r c.a).n = 0 then jump else stay, none, false) else
  some (stay, none, true)
def R1 (r : Option (Et × Bool × LX.State)) (q : Option (LX.State × Option Int × Bool)) : Prop := ∃ o ok s', r = some (o, ok, s') ∧ match q with | none => ok = false | some (t, said, p) => ok = true ∧ s' = t ∧ o = ⟨said.isSome, said.getD 0, p⟩
theorem yS {R : Int} {r : List Val} (hr : (r.length : Int) = R) {i : Int} (h : xJ R i) : idx r i = some (gG r i) ∧ gG r i ∈ r := by
  obtain ⟨h1, h2⟩ := h
  obtain ⟨n, rfl⟩ := Int.eq_ofNat_of_zero_le h1
  unfold gG
  rw [vO (by omega)]
  exact ⟨rfl, List.getElem_mem _⟩
theorem Gd (pre : List LX.Frame) (f : LX.Frame) : idx (pre ++ [f]) (pre.length : Int) = some f := by rw [nU]; simp
theorem rM (pre : List LX.Frame) (f g : LX.Frame) : (pre ++ [f]).set pre.length g = pre ++ [g] := by simp
theorem p8 (pre : List LX.Frame) (f : LX.Frame) : (((pre ++ [f]).length : Int) - 1) = (pre.length : Int) := by simp
theorem mul_bd {x y : Int} (hx : -1000000000 ≤ x ∧ x ≤ 1000000000) (hy : -1000000000 ≤ y ∧ y ≤ 1000000000) : -1000000000000000000 ≤ x * y ∧ x * y ≤ 1000000000000000000 := by
  have h1 : (x * y).natAbs ≤ 1000000000 * 1000000000 := by
    rw [Int.natAbs_mul]
    exact Nat.mul_le_mul (by omega) (by omega)
  omega
theorem ik.int {n : Nat} {v : Val} (h : ik n v) (hk : v.kind = 1) : -1000000000 ≤ v.n ∧ v.n ≤ 1000000000 := by unfold ik at h; omega
theorem op_eq {n : Nat} {k : Int} {b c : Val} (hk : 1 ≤ k ∧ k ≤ 5) (hb : ik n b) (hc : ik n c) : ∃ v, O6 k b c = some (v, (SI k b c).isSome) ∧ ∀ w, SI k b c = some w → v = w := by
  unfold O6 SI Ay
  by_cases h5 : k = 5
  · rw [dT h5, cond_true, if_pos h5]
    by_cases e : b = c
    · subst e; simp
    · rw [if_neg e]
      have : (decide (b.kind = c.kind) && decide (b.n = c.n)) = false := by
        obtain ⟨k1, n1⟩ := b; obtain ⟨k2, n2⟩ := c
        rw [Bool.and_eq_false_iff]; simp at e ⊢
        by_cases h : k1 = k2
        · right; exact e h
        · left; exact h
      rw [this]; simp
  rw [dF h5, cond_false, if_neg h5]
  by_cases hi : b.kind = 1 ∧ c.kind = 1
  · rw [show (decide ((b.kind : Int) ≠ 1) || decide ((c.kind : Int) ≠ 1)) = false by simp [hi.1, hi.2], cond_false, if_neg (by simp [hi.1, hi.2])]
    have b1 := hb.int hi.1
    have c1 := hc.int hi.2
    have m1 := mul_bd b1 c1
    have fin : ∀ z : Int, ∃ v, some ((⟨1, z⟩ : Val), (decide ((-1000000000 : Int) ≤ z) && decide ((z : Int) ≤ 1000000000))) = some (v, (if -1000000000 ≤ z ∧ z ≤ 1000000000 then some (⟨1, z⟩ : Val) else none).isSome) ∧ ∀ w, (if -1000000000 ≤ z ∧ z ≤ 1000000000 then some (⟨1, z⟩ : Val) else none) = some w → v = w := by
      intro z
      by_cases h : -1000000000 ≤ z ∧ z ≤ 1000000000
      · rw [if_pos h, dT h.1, dT h.2]; exact ⟨_, rfl, fun w e => by cases e; rfl⟩
      · rw [if_neg h]
        refine ⟨⟨1, z⟩, ?_, fun w e => by cases e⟩
        · congr 2
          rw [Option.isSome_none, Bool.and_eq_false_iff]; simp only [decide_eq_false_iff_not]; omega
    by_cases h4 : k = 4
    · subst h4
      rw [if_pos rfl]
      simp only [Int.reduceEq, decide_false, decide_true, cond_false, cond_true]
      by_cases e : b.n < c.n <;> simp [e]
    rw [if_neg h4]
    by_cases h1 : k = 1
    · subst h1
      simp only [Int.reduceEq, decide_true, cond_true, if_true]
      rw [gI (by omega) (by omega)]
      exact fin _
    by_cases h2 : k = 2
    · subst h2
      simp only [Int.reduceEq, decide_true, decide_false, cond_true, cond_false, if_true, if_false]
      rw [gI (by omega) (by omega)]
      exact fin _
    · obtain rfl : k = 3 := by omega
      simp only [Int.reduceEq, decide_true, decide_false, cond_true, cond_false, if_true, if_false]
      rw [gI (by omega) (by omega)]
      exact fin _
  · rw [show (decide ((b.kind : Int) ≠ 1) || decide ((c.kind : Int) ≠ 1)) = true by simp; omega, cond_true, if_pos (by omega)]
    exact ⟨_, rfl, fun w e => by cases e⟩
end Go.Proofs.YtfclkapelkhlpaaGreatDoor
namespace Go.Proofs.YtfclkapelkhlpaaGreatDoor
open Go Go.Proofs Go.LX
theorem lq {a : List bQ} {n : Nat} {f : LX.Frame} : ∀ {l : List LX.Frame} {t : Int}, jE a n t (l ++ [f]) ↔ jE a n t l ∧ (∃ x, zR a n f x) ∧ (0 ≤ f.kP ∧ f.kP < (match l.getLast? with | none => t | some g => g.regs.length))
  | [], t => by simp [jE]
  | g :: l, t => by
    show ((∃ x, zR a n g x) ∧ (0 ≤ g.kP ∧ g.kP < t) ∧ jE a n g.regs.length (l ++ [f])) ↔ _
    rw [lq (l := l)]
    have e : (match (g :: l).getLast? with | none => t | some g => ((g.regs.length : Int))) = (match l.getLast? with | none => ((g.regs.length : Int)) | some g => (g.regs.length : Int)) := by
      rw [List.getLast?_cons]
      cases l.getLast? <;> rfl
    rw [e]
    simp only [jE, and_assoc]
structure oL (a : List bQ) (pre : List LX.Frame) (f : LX.Frame) (cells : List (List Val)) (x : bQ) (c : Ins) : Prop where
  fr : zR a cells.length f x
  ins : idx x.code f.at_ = some c
  good : Cv a x.regs x.code.length c
  chain : jE a cells.length 1 pre
  kP : 0 ≤ f.kP ∧ f.kP < ahead pre
  many : pre.length + 1 ≤ 10
  PG : nY cells
  proc : (1 ≤ x.regs ∧ x.regs ≤ 40) ∧ rJ x
theorem top_ok {a : List bQ} (ha : mo a) {pre : List LX.Frame} {f : LX.Frame} {cells : List (List Val)} {st wh : Int} (h : sG a ⟨pre ++ [f], cells, st, wh⟩) : ∃ x c, oL a pre f cells x c := by
  obtain ⟨h1, ⟨x, g⟩, h3⟩ := lq.1 h.frames
  have hm := ha.mem g.proc
  have hat := g.at_
  obtain ⟨n, hn⟩ := Int.eq_ofNat_of_zero_le hat.1
  have hlt : n < x.code.length := by omega
  refine ⟨x, x.code[n], g, by rw [hn, vO hlt], ha.ins x hm.1 _ (List.getElem_mem _), h1, h3, ?_, h.cells, ⟨by omega, hm.2.2.2⟩⟩
  have := h.many
  simpa using this
theorem oL.zY {a : List bQ} {pre : List LX.Frame} {f : LX.Frame} {cells : List (List Val)} {x : bQ} {c : Ins} (h : oL a pre f cells x c) : zR a cells.length (zY f x) x where
  proc := h.fr.proc
  at_ := by
    have := h.fr.at_
    have := h.proc.2
    unfold rJ at this
    simp only [YtfclkapelkhlpaaGreatDoor.zY]
    omega
  regs := h.fr.regs
  vals := h.fr.vals
theorem oL.reg {a : List bQ} {pre : List LX.Frame} {f : LX.Frame} {cells : List (List Val)} {x : bQ} {c : Ins} (h : oL a pre f cells x c) {i : Int} (hi : xJ x.regs i) : idx f.regs i = some (gG f.regs i) ∧ ik cells.length (gG f.regs i) := by
  have := yS h.fr.regs hi
  exact ⟨this.1, h.fr.vals _ this.2⟩
theorem oL.sw {a : List bQ} {pre : List LX.Frame} {f : LX.Frame} {cells : List (List Val)} {x : bQ} {c : Ins} (ha : mo a) (h : oL a pre f cells x c) {st wh : Int} {g : LX.Frame} (hg : zR a cells.length g x) : Dm ⟨pre ++ [g], cells, st, wh⟩ where
  small := ⟨by have := h.many; simp; omega, fun k hk => by
    rcases List.mem_append.1 hk with hk | hk
    · obtain ⟨y, hy⟩ := vw h.chain k hk
      have := hy.regs
      have := (ha.mem hy.proc).2.2.1
      omega
    · simp at hk; subst hk
      have := hg.regs
      have := h.proc.1
      omega, h.PG.1, fun c hc => (h.PG.2 c hc).1.2⟩
  cells := h.PG
  vals k hk := by
    rcases List.mem_append.1 hk with hk | hk
    · obtain ⟨y, hy⟩ := vw h.chain k hk
      exact hy.vals
    · simp at hk; subst hk; exact hg.vals
section
variable {a : List bQ} {pre : List LX.Frame} {f : LX.Frame} {cells : List (List Val)} {st wh : Int} {x : bQ} {c : Ins} {N : Nat}
theorem vz (h : oL a pre f cells x c) : pX N ⟨pre ++ [f], cells, st, wh⟩ a = (bif decide ((c.op : Int) = 1) then (idx f.regs c.a).bind fun x41 => kJ false (pre ++ [{ zY f x with regs := (f.regs.set (c.a).toNat (⟨1, c.b⟩ : Val)) }]) cells st wh else bif decide ((c.op : Int) = 2) then (idx f.regs c.b).bind fun XF => (idx f.regs c.a).bind fun x56 => kJ false (pre ++ [{ zY f x with regs := (f.regs.set (c.a).toNat XF) }]) cells st wh else bif decide ((c.op : Int) = 3) then (idx c.args 0).bind fun q5 => (idx f.regs c.b).bind fun q10 => (idx f.regs c.c).bind fun q15 => (O6 q5 q10 q15).bind fun q17 => (idx f.regs c.a).bind fun q21 => BZ ⟨pre ++ [f], cells, st, wh⟩ q17.2 (pre ++ [{ zY f x with regs := (f.regs.set (c.a).toNat q17.1) }]) else bif decide ((c.op : Int) = 4) then jd N ⟨pre ++ [f], cells, st, wh⟩ f x c a (decide ((c.op : Int) = 4)) else jd N ⟨pre ++ [f], cells, st, wh⟩ f x c a (decide ((c.op : Int) = 6))) := by
  have hm := h.many
  have hat := h.fr.at_
  have hl := h.proc.2
  unfold rJ at hl
  unfold pX
  simp only [p8]
  rw [gI (by omega) (by omega), Gd, bnd, h.fr.proc, bnd, h.ins, bnd, gI (by omega) (by omega), gI (by omega) (by omega)]
  simp only [Int.toNat_natCast, rM]
  rfl
theorem step1 (h : oL a pre f cells x c) (hop : c.op = 1) (hr : xJ x.regs c.a) : R1 (pX N ⟨pre ++ [f], cells, st, wh⟩ a) (mP a pre f cells st wh x c) := by
  rw [vz h, hop]
  simp only [Int.reduceEq, decide_true, decide_false, cond_true, cond_false]
  rw [(h.reg hr).1, bnd]
  unfold mP
  simp only [hop, if_true]
  exact ⟨_, _, _, rfl, rfl, rfl, rfl⟩
theorem step2 (h : oL a pre f cells x c) (hop : c.op = 2) (hr : xJ x.regs c.a) (hb : xJ x.regs c.b) : R1 (pX N ⟨pre ++ [f], cells, st, wh⟩ a) (mP a pre f cells st wh x c) := by
  rw [vz h, hop]
  simp only [Int.reduceEq, decide_true, decide_false, cond_true, cond_false]
  rw [(h.reg hb).1, bnd, (h.reg hr).1, bnd]
  unfold mP
  simp only [hop, Int.reduceEq, if_true, if_false]
  exact ⟨_, _, _, rfl, rfl, rfl, rfl⟩
theorem step3 (h : oL a pre f cells x c) (hop : c.op = 3) (hr : xJ x.regs c.a) (hb : xJ x.regs c.b) (hc : xJ x.regs c.c) {n : Int} (hn : c.args = [n]) (hn2 : 1 ≤ n ∧ n ≤ 5) : R1 (pX N ⟨pre ++ [f], cells, st, wh⟩ a) (mP a pre f cells st wh x c) := by
  rw [vz h, hop, hn]
  simp only [Int.reduceEq, decide_true, decide_false, cond_true, cond_false]
  obtain ⟨v, h1, h2⟩ := op_eq hn2 (h.reg hb).2 (h.reg hc).2
  rw [Zz, bnd, (h.reg hb).1, bnd, (h.reg hc).1, bnd, h1, bnd, (h.reg hr).1, bnd]
  unfold mP BZ
  simp only [hop, hn, Int.reduceEq, if_true, if_false, List.headD_cons]
  cases e : SI n (gG f.regs c.b) (gG f.regs c.c) with
  | none => exact ⟨_, _, _, rfl, rfl⟩
  | some w => rw [h2 w e]; exact ⟨_, _, _, rfl, rfl, rfl, rfl⟩
theorem PH {v : Val} (hc : nY cells) (h : ik cells.length v) (hk : v.kind = 2) : idx cells v.n = some (cellAt cells v.n) ∧ (1 ≤ (cellAt cells v.n).length ∧ (cellAt cells v.n).length ≤ 4) := by
  have hr := h.ref hk
  exact ⟨(Cb hr).1, (hc.at hr).1⟩
theorem SK {v : Val} {i : Int} (hi : 0 ≤ i) (h : i < ((cellAt cells v.n).length : Int)) : idx (cellAt cells v.n) i = some (gG (cellAt cells v.n) i) := (yS rfl ⟨hi, h⟩).1
theorem UI (h : oL a pre f cells x c) (hop : c.op = 4) (hr : xJ x.regs c.a) (hb : xJ x.regs c.b) (hc : 0 ≤ c.c ∧ c.c < 4) : R1 (pX N ⟨pre ++ [f], cells, st, wh⟩ a) (mP a pre f cells st wh x c) := by
  rw [vz h, hop]
  simp only [Int.reduceEq, decide_true, decide_false, cond_true, cond_false]
  unfold jd FZ xh xg
  simp only [p8, Int.toNat_natCast, rM, hop, Int.reduceEq, decide_true, decide_false, cond_true, cond_false]
  have hv := h.reg hb
  rw [hv.1]
  simp only [bnd]
  unfold mP
  simp only [hop, Int.reduceEq, if_true, if_false]
  by_cases hk : (gG f.regs c.b).kind = 2
  · have hcell := PH h.PG hv.2 hk
    rw [dF (by omega), cond_false, hcell.1]
    simp only [bnd]
    by_cases hl : ((cellAt cells (gG f.regs c.b).n).length : Int) ≤ c.c
    · rw [dT hl, cond_true, if_pos (by omega)]
      exact ⟨_, _, _, rfl, rfl⟩
    · rw [dF hl, cond_false, if_neg (by omega), SK hc.1 (by omega), bnd, (h.reg hr).1, bnd]
      exact ⟨_, _, _, rfl, rfl, rfl, rfl⟩
  · rw [dT hk, cond_true, if_pos (.inl hk)]
    exact ⟨_, _, _, rfl, rfl⟩
theorem UJ (h : oL a pre f cells x c) (hop : c.op = 6) (hr : xJ x.regs c.a) (hb : xJ x.regs c.b) (hc : 0 ≤ c.c ∧ c.c < 4) : R1 (pX N ⟨pre ++ [f], cells, st, wh⟩ a) (mP a pre f cells st wh x c) := by
  rw [vz h, hop]
  simp only [Int.reduceEq, decide_true, decide_false, cond_true, cond_false]
  unfold jd FZ xh xg
  simp only [p8, Int.toNat_natCast, rM, hop, Int.reduceEq, decide_true, decide_false, cond_true, cond_false]
  have hv := h.reg hr
  rw [hv.1]
  simp only [bnd]
  unfold mP
  simp only [hop, Int.reduceEq, if_true, if_false]
  by_cases hk : (gG f.regs c.a).kind = 2
  · have hcell := PH h.PG hv.2 hk
    rw [dF (by omega), cond_false, hcell.1]
    simp only [bnd]
    by_cases hl : ((cellAt cells (gG f.regs c.a).n).length : Int) ≤ c.c
    · rw [dT hl, cond_true, if_pos (by omega)]
      exact ⟨_, _, _, rfl, rfl⟩
    · rw [dF hl, cond_false, if_neg (by omega), (h.reg hb).1, bnd, SK hc.1 (by omega), bnd]
      exact ⟨_, _, _, rfl, rfl, rfl, rfl⟩
  · rw [dT hk, cond_true, if_pos (.inl hk)]
    exact ⟨_, _, _, rfl, rfl⟩
theorem AY (g : LX.Frame) : cZ ⟨pre ++ [g], cells, st, wh⟩ = ⟨pre.map (zS (di ⟨pre ++ [g], cells, st, wh⟩)) ++ [zS (di ⟨pre ++ [g], cells, st, wh⟩) g], (cZ ⟨pre ++ [g], cells, st, wh⟩).cells, st, wh⟩ := by
  unfold cZ; simp
theorem Mi {s : LX.State} (h : Dm s) : (cZ s).cells.length ≤ s.cells.length ∧ (cZ s).cells.length ≤ 24 := by
  have h1 := h.reach.1.len
  have := h.cells.1
  unfold cZ; simp; omega
theorem PI (p2 : List LX.Frame) (g : LX.Frame) (cs : List (List Val)) (hl : p2.length ≤ 20) (hcs : cs.length ≤ 24) (hr : xJ g.regs.length c.a) (hb : 1 ≤ c.b ∧ c.b ≤ 4) : ∃ ok t, qX c (p2 ++ [g]) cs st wh = some (ok, t) ∧ match Ld ⟨p2 ++ [g], cs, st, wh⟩ c with | none => ok = false | some u => ok = true ∧ t = u := by
  unfold qX Ld
  simp only [p8]
  by_cases h : cs.length = 24
  · rw [dT (by omega), cond_true, if_pos h]; exact ⟨_, _, rfl, rfl⟩
  · rw [dF (by omega), cond_false, if_neg h, gI (by omega) (by omega), Gd, bnd, (yS rfl hr).1, bnd, tX (by omega), tX (room_le (by simp; omega) (by decide)), Int.toNat_natCast, rM]
    refine ⟨_, _, rfl, rfl, ?_⟩
    simp
theorem step5 (ha : mo a) (hN : 100 ≤ N) (h : oL a pre f cells x c) (hop : c.op = 5) (hr : xJ x.regs c.a) (hb : 1 ≤ c.b ∧ c.b ≤ 4) : R1 (pX N ⟨pre ++ [f], cells, st, wh⟩ a) (mP a pre f cells st wh x c) := by
  rw [vz h, hop]
  simp only [Int.reduceEq, decide_true, decide_false, cond_true, cond_false]
  unfold jd J2
  simp only [p8, Int.toNat_natCast, rM, hop, Int.reduceEq, decide_true, decide_false, cond_true, cond_false]
  unfold mP
  simp only [hop, Int.reduceEq, if_true, if_false]
  have hm := h.many
  have hsw := oL.sw ha h (st := st) (wh := wh) h.zY
  have hrr : xJ (zY f x).regs.length c.a := by have := h.zY.regs; rw [this]; exact hr
  have fin : ∀ s2 : LX.State, (∃ ok t, qX c s2.frames s2.cells s2.status s2.aQ = some (ok, t) ∧ match Ld s2 c with | none => ok = false | some u => ok = true ∧ t = u) →
      R1 ((qX c s2.frames s2.cells s2.status s2.aQ).bind fun y => some ((⟨false, 0, false⟩ : Et), y.1, y.2)) ((Ld s2 c).map fun t => (t, none, false)) := by
    rintro s2 ⟨ok, t, h1, h2⟩
    rw [h1, bnd]
    cases e : Ld s2 c with
    | none => rw [e] at h2; exact ⟨_, _, _, rfl, h2⟩
    | some u => rw [e] at h2; exact ⟨_, _, _, rfl, h2.1, h2.2, rfl⟩
  by_cases Vm : cells.length = 24
  · rw [dT (by omega), cond_true, if_pos Vm]
    have e1 : ({ f with at_ := min (f.at_ + 1) ((x.code.length : Int) - 1) } : LX.Frame) = zY f x := rfl
    rw [e1, AX hN hsw, bnd]
    refine fin _ ?_
    rw [AY]
    exact PI _ _ _ (by simp; omega) (Mi hsw).2 (by simpa [zS] using hrr) hb
  · rw [dF (by omega), cond_false, if_neg Vm]
    exact fin ⟨pre ++ [zY f x], cells, st, wh⟩ (PI _ _ _ (by omega) h.PG.1 hrr hb)
theorem Mj {ρ : Type} {body : Int → Int → List Val → (List Val → Option ρ) → Option ρ} {K : List Val → Option ρ} {r : Int → Val} {P : Int → Prop}
    (hb : ∀ (i : Nat) k y nx, i < y.length → P k → body (i : Int) k y nx = nx (y.set i (r k))) : ∀ (l : List Int) (done rest : List Val), (∀ k ∈ l, P k) → l.length ≤ rest.length → fq body K (done.length : Int) l (done ++ rest) = K (done ++ l.map r ++ rest.drop l.length)
  | [], done, rest, _, _ => by simp [fq]
  | k :: l, done, z :: rest, h, hl => by
    rw [ja, hb done.length k (done ++ z :: rest) _ (by simp) (h k (by simp)), show (done ++ z :: rest).set done.length (r k) = (done ++ [r k]) ++ rest by simp, show ((done.length : Int) + 1) = ((done ++ [r k]).length : Nat) by simp, Mj hb l (done ++ [r k]) rest (fun q hq => h q (List.mem_cons_of_mem _ hq)) (by simpa using hl)]
    simp
  | k :: l, done, [], h, hl => by simp at hl
theorem step7 (ha : mo a) (h : oL a pre f cells x c) (hop : c.op = 7) (hr : xJ x.regs c.a) {p : bQ} (hp : idx a c.b = some p) (hl : (c.args.length : Int) = p.params) (hargs : ∀ k ∈ c.args, xJ x.regs k) : R1 (pX N ⟨pre ++ [f], cells, st, wh⟩ a) (mP a pre f cells st wh x c) := by
  rw [vz h, hop]
  simp only [Int.reduceEq, decide_true, decide_false, cond_true, cond_false]
  unfold jd NL
  simp only [p8, Int.toNat_natCast, rM, hop, Int.reduceEq, decide_true, decide_false, cond_true, cond_false]
  unfold mP
  simp only [hop, Int.reduceEq, if_true, if_false]
  have hm := h.many
  have hpr := ha.mem hp
  by_cases h10 : pre.length + 1 = 10
  · rw [dT (by simp; omega), cond_true, if_pos h10]; exact ⟨_, _, _, rfl, rfl⟩
  · rw [dF (by simp; omega), cond_false, if_neg h10, hp, bnd, tX (by omega)]
    have Vw := Mj (K := vU ⟨pre ++ [zY f x], cells, st, wh⟩ c a) (body := vT ⟨pre ++ [zY f x], cells, st, wh⟩) (r := gG f.regs) (P := fun k => xJ x.regs k) (fun i k y nx hi hk => by
      unfold vT
      simp only [p8]
      rw [gI (by omega) (by omega), Gd, bnd]
      show ((idx f.regs k).bind fun Aj => (idx y (i : Int)).bind fun x41 => nx (y.set ((i : Int)).toNat Aj)) = _
      rw [(h.reg hk).1, bnd, vO hi, bnd, Int.toNat_natCast]) c.args [] (List.replicate p.regs.toNat ⟨0, 0⟩) hargs (by simp; omega)
    have hfill' : fq (vT ⟨pre ++ [zY f x], cells, st, wh⟩) (vU ⟨pre ++ [zY f x], cells, st, wh⟩ c a) 0 c.args (List.replicate p.regs.toNat ⟨0, 0⟩) = _ := Vw
    have e1 : ({ f with at_ := min (f.at_ + 1) ((x.code.length : Int) - 1) } : LX.Frame) = zY f x := rfl
    rw [e1, hfill']
    unfold vU
    simp only
    rw [tX (room_le (by simp; omega) (by decide)), bnd]
    refine ⟨_, _, _, rfl, rfl, ?_, rfl⟩
    simp only [List.nil_append, List.drop_replicate, hp, Option.map_some, Option.getD_some]
    rw [show p.regs.toNat - c.args.length = (p.regs - (c.args.length : Int)).toNat by omega]
theorem step8 (ha : mo a) (h : oL a pre f cells x c) (hop : c.op = 8) (hr : xJ x.regs c.a) : R1 (pX N ⟨pre ++ [f], cells, st, wh⟩ a) (mP a pre f cells st wh x c) := by
  rw [vz h, hop]
  simp only [Int.reduceEq, decide_true, decide_false, cond_true, cond_false]
  unfold jd NM
  simp only [p8, Int.toNat_natCast, rM, hop, Int.reduceEq, decide_true, decide_false, cond_true, cond_false]
  unfold mP
  simp only [hop, Int.reduceEq, if_true, if_false]
  have hm := h.many
  rw [(h.reg hr).1, bnd, gI (by omega) (by omega)]
  rw [show sub? (pre ++ [({ f with at_ := min (f.at_ + 1) ((x.code.length : Int) - 1) } : LX.Frame)]) 0 (pre.length : Int) = some pre by unfold sub?; rw [if_pos (by simp; omega)]; simp [cut], bnd]
  rw [show (pre ++ [({ f with at_ := min (f.at_ + 1) ((x.code.length : Int) - 1) } : LX.Frame)]).take pre.length = pre by simp]
  rcases List.eq_nil_or_concat pre with hp | ⟨q, g, hp⟩
  · subst hp
    exact ⟨_, _, _, rfl, rfl, rfl, rfl⟩
  · rw [List.concat_eq_append] at hp
    subst hp
    have hto := h.kP
    rw [EX] at hto
    simp only [List.length_append, List.length_cons, List.length_nil] at hm
    rw [dF (by simp; omega), cond_false, p8, gI (by omega) (by omega), Gd, bnd, (yS rfl hto).1, bnd, Int.toNat_natCast, rM, bnd]
    simp only [List.getLast?_append, List.getLast?_singleton, Option.some_or, List.dropLast_concat]
    exact ⟨_, _, _, rfl, rfl, rfl, rfl⟩
theorem AZ (h : oL a pre f cells x c) (hop : (c.op = 9 ∨ c.op = 11 ∨ c.op = 13) ∧ xJ x.regs c.a ∨ c.op = 10 ∨ c.op = 12) : R1 (pX N ⟨pre ++ [f], cells, st, wh⟩ a) (mP a pre f cells st wh x c) := by
  rw [vz h]
  rcases hop with ⟨hop | hop | hop, hr⟩ | hop | hop
  · rw [hop]
    simp only [Int.reduceEq, decide_true, decide_false, cond_true, cond_false]
    unfold jd
    simp only [p8, Int.toNat_natCast, rM, hop, Int.reduceEq, decide_true, decide_false, cond_true, cond_false]
    unfold mP
    simp only [hop, Int.reduceEq, if_true, if_false]
    rw [(h.reg hr).1, bnd]
    by_cases hk : (gG f.regs c.a).kind = 1
    · rw [dT hk, if_pos hk]; exact ⟨_, _, _, rfl, rfl, rfl, rfl⟩
    · rw [dF hk, if_neg hk]; exact ⟨_, _, _, rfl, rfl⟩
  · rw [hop]
    simp only [Int.reduceEq, decide_true, decide_false, cond_true, cond_false]
    unfold jd
    simp only [p8, Int.toNat_natCast, rM, hop, Int.reduceEq, decide_true, decide_false, cond_true, cond_false]
    unfold mP
    simp only [hop, Int.reduceEq, if_true, if_false]
    rw [(h.reg hr).1, bnd]
    by_cases hk : (gG f.regs c.a).kind = 1
    · rw [dF (by omega), cond_false, if_pos hk]; exact ⟨_, _, _, rfl, rfl, rfl, rfl⟩
    · rw [dT hk, cond_true, if_neg hk]; exact ⟨_, _, _, rfl, rfl⟩
  · rw [hop]
    simp only [Int.reduceEq, decide_true, decide_false, cond_true, cond_false]
    unfold jd
    simp only [p8, Int.toNat_natCast, rM, hop, Int.reduceEq, decide_true, decide_false, cond_true, cond_false]
    unfold mP
    simp only [hop, Int.reduceEq, if_true, if_false]
    have hv := h.reg hr
    rw [hv.1, bnd]
    have hval := hv.2
    unfold ik at hval
    by_cases hk : (gG f.regs c.a).kind ≠ 2 ∧ (gG f.regs c.a).n = 0
    · rw [if_pos hk, show (decide ((gG f.regs c.a).kind = 0) || (decide ((gG f.regs c.a).kind = 1) && decide ((gG f.regs c.a).n = 0))) = true by simp; omega, cond_true]
      exact ⟨_, _, _, rfl, rfl, rfl, rfl⟩
    · rw [if_neg hk, show (decide ((gG f.regs c.a).kind = 0) || (decide ((gG f.regs c.a).kind = 1) && decide ((gG f.regs c.a).n = 0))) = false by rw [Bool.or_eq_false_iff, Bool.and_eq_false_iff]; simp only [decide_eq_false_iff_not]; omega, cond_false]
      exact ⟨_, _, _, rfl, rfl, rfl, rfl⟩
  · rw [hop]
    simp only [Int.reduceEq, decide_true, decide_false, cond_true, cond_false]
    unfold jd
    simp only [p8, Int.toNat_natCast, rM, hop, Int.reduceEq, decide_true, decide_false, cond_true, cond_false]
    unfold mP
    simp only [hop, Int.reduceEq, if_true, if_false]
    exact ⟨_, _, _, rfl, rfl, rfl, rfl⟩
  · rw [hop]
    simp only [Int.reduceEq, decide_true, decide_false, cond_true, cond_false]
    unfold jd
    simp only [p8, Int.toNat_natCast, rM, hop, Int.reduceEq, decide_true, decide_false, cond_true, cond_false]
    unfold mP
    simp only [hop, Int.reduceEq, if_true, if_false]
    exact ⟨_, _, _, rfl, rfl, rfl, rfl⟩
theorem Ri (ha : mo a) (hN : 100 ≤ N) (h : oL a pre f cells x c) : R1 (pX N ⟨pre ++ [f], cells, st, wh⟩ a) (mP a pre f cells st wh x c) := by
  rcases h.good with g | g | g | g | g | g | g | g | g | g
  · exact step1 h g.1 g.2.1
  · exact step2 h g.1 g.2.1 g.2.2
  · obtain ⟨g1, g2, g3, g4, n, g5, g6, g7⟩ := g
    exact step3 h g1 g2 g3 g4 g5 ⟨g6, g7⟩
  · obtain ⟨g1 | g1, g2, g3, g4⟩ := g
    · exact UI h g1 g2 g3 g4
    · exact UJ h g1 g2 g3 g4
  · exact step5 ha hN h g.1 g.2.1 g.2.2
  · obtain ⟨g1, g2, ⟨p, g3, g4⟩, g5⟩ := g
    exact step7 ha h g1 g2 g3 g4 g5
  · obtain ⟨g1 | g1 | g1, g2⟩ := g
    · exact step8 ha h g1 g2
    · exact AZ h (.inl ⟨.inl g1, g2⟩)
    · exact AZ h (.inl ⟨.inr (.inl g1), g2⟩)
  · exact AZ h (.inr (.inl g))
  · exact AZ h (.inr (.inr g.1))
  · exact AZ h (.inl ⟨.inr (.inr g.1), g.2.1⟩)
end
end Go.Proofs.YtfclkapelkhlpaaGreatDoor
namespace Go.Proofs.YtfclkapelkhlpaaGreatDoor
open Go Go.Proofs Go.LX
theorem ik.up {n m : Nat} {v : Val} (h : ik n v) (hm : n ≤ m) : ik m v := by unfold ik at *; omega
theorem zR.up {a : List bQ} {n m : Nat} {f : LX.Frame} {x : bQ} (h : zR a n f x) (hm : n ≤ m) : zR a m f x := ⟨h.proc, h.at_, h.regs, fun v hv => (h.vals v hv).up hm⟩
theorem Dn {a : List bQ} {n m : Nat} (hm : n ≤ m) : ∀ {l : List LX.Frame} {t : Int}, jE a n t l → jE a m t l
  | [], _, _ => trivial
  | f :: l, t, h => by obtain ⟨⟨x, g⟩, h2, h3⟩ := h; exact ⟨⟨x, g.up hm⟩, h2, Dn hm h3⟩
theorem Rj {n : Nat} {l : List Int} {v : Val} (h : ik n v) (hr : v.kind = 2 → v.n ∈ l) : ik l.length (ren l v) := by
  unfold ren
  by_cases hk : v.kind = 2
  · rw [if_pos hk]
    have := List.idxOf_lt_length_of_mem (hr hk)
    unfold ik
    simp only
    omega
  · rw [if_neg hk]; unfold ik at *; omega
theorem zR.ren {a : List bQ} {n : Nat} {l : List Int} {f : LX.Frame} {x : bQ} (h : zR a n f x) (hr : gq f.regs l) : zR a l.length (zS l f) x where
  proc := h.proc
  at_ := h.at_
  regs := by unfold zS; simpa using h.regs
  vals v hv := by
    unfold zS at hv
    simp only [List.mem_map] at hv
    obtain ⟨w, hw, rfl⟩ := hv
    exact Rj (h.vals w hw) (hr w hw)
theorem Gf {a : List bQ} {n : Nat} {r : List Int} : ∀ {l : List LX.Frame} {t : Int}, jE a n t l → (∀ f ∈ l, gq f.regs r) → jE a r.length t (l.map (zS r))
  | [], _, _, _ => trivial
  | f :: l, t, h, hr => by
    obtain ⟨⟨x, g⟩, h2, h3⟩ := h
    refine ⟨⟨x, g.ren (hr f (by simp))⟩, h2, ?_⟩
    have := Gf h3 (fun k hk => hr k (List.mem_cons_of_mem _ hk))
    simpa [zS] using this
theorem Dp {s : LX.State} (h : Dm s) : nY (cZ s).cells := by
  have hr := h.reach
  have hl := hr.1.len
  have hn := h.cells.1
  refine ⟨by simp [cZ]; omega, fun c hc => ?_⟩
  unfold cZ at hc ⊢
  simp only [List.mem_map, List.length_map] at hc ⊢
  obtain ⟨k, hk, rfl⟩ := hc
  have hk2 := h.cells.at (hr.1.2 k hk)
  refine ⟨by simpa using hk2.1, fun v hv => ?_⟩
  obtain ⟨w, hw, rfl⟩ := List.mem_map.1 hv
  exact Rj (hk2.2 w hw) (hr.2.2 k hk w hw)
theorem Gg {a : List bQ} (ha : mo a) {s : LX.State} (h : sG a s) : sG a (cZ s) where
  status := h.status
  aQ := h.aQ
  stay := h.stay
  ended := by rw [show (cZ s).status = s.status from rfl, h.ended]; simp [cZ]
  many := by simpa [cZ] using h.many
  cells := Dp (h.sw ha)
  frames := by
    have hr := (h.sw ha).reach
    have := Gf h.frames (yR hr.2.1)
    simpa [cZ] using this
theorem PK {n : Nat} {r : List Val} {i : Nat} {v : Val} (h : ∀ w ∈ r, ik n w) (hv : ik n v) : ∀ w ∈ r.set i v, ik n w := fun w hw => by
  rcases List.mem_or_eq_of_mem_set hw with hw | rfl
  · exact h w hw
  · exact hv
section
variable {a : List bQ} {pre : List LX.Frame} {f : LX.Frame} {cells : List (List Val)} {wh : Int} {x : bQ} {c : Ins} {N : Nat}
theorem oL.st (h : oL a pre f cells x c) {g : LX.Frame} {y : bQ} {cs : List (List Val)} {s w : Int} (hg : zR a cs.length g y) (hto : g.kP = f.kP) (hc : nY cs) (hl : cells.length ≤ cs.length) (hs : (s = 0 ∧ w = 0) ∨ (s = 3 ∧ -1000000000 ≤ w ∧ w ≤ 1000000000)) : sG a ⟨pre ++ [g], cs, s, w⟩ where
  status := by simp only; omega
  aQ := by simp only; omega
  stay := by simp only; omega
  ended := by simp; omega
  many := by have := h.many; simp; omega
  cells := hc
  frames := lq.2 ⟨Dn hl h.chain, ⟨y, hg⟩, by rw [hto]; exact h.kP⟩
theorem opP_ok {n : Nat} {k : Int} {b c v : Val} (hk : 1 ≤ k ∧ k ≤ 5) (h : SI k b c = some v) : ik n v := by
  unfold SI at h
  split at h
  · cases h; split <;> (unfold ik; simp)
  split at h
  · cases h
  split at h
  · cases h; split <;> (unfold ik; simp)
  simp only at h
  generalize (if k = 1 then b.n + c.n else if k = 2 then b.n - c.n else b.n * c.n) = z at h
  split at h
  · rename_i hz; cases h; exact .inr (.inl ⟨rfl, hz.1, hz.2⟩)
  · cases h
theorem zR.put {n : Nat} {f : LX.Frame} {x : bQ} (h : zR a n f x) {i : Nat} {v : Val} (hv : ik n v) : zR a n { f with regs := f.regs.set i v } x := ⟨h.proc, h.at_, by simpa using h.regs, PK h.vals hv⟩
theorem zR.jump {n : Nat} {f : LX.Frame} {x : bQ} (h : zR a n f x) {b : Int} (hb : 0 ≤ b ∧ b < x.code.length) : zR a n { f with at_ := b } x := ⟨h.proc, hb, h.regs, h.vals⟩
theorem SL {s t : LX.State} {g : LX.Frame} (h : Ld ⟨pre ++ [g], cells, 0, wh⟩ c = some t) (hs : sG a ⟨pre ++ [g], cells, 0, wh⟩) (hb : 1 ≤ c.b ∧ c.b ≤ 4) : sG a t ∧ t.status = 0 := by
  unfold Ld at h
  split at h
  · cases h
  rename_i Vm
  simp only [List.dropLast_concat, List.getLast?_append, List.getLast?_singleton, Option.some_or, Option.map_some, Option.toList_some] at h Vm
  cases h
  obtain ⟨h1, ⟨x, h2⟩, h3⟩ := lq.1 hs.frames
  have hc := hs.cells
  simp only at h1 h2 h3 hc
  have hle : cells.length ≤ (cells ++ [List.replicate c.b.toNat (⟨0, 0⟩ : Val)]).length := by simp
  refine ⟨⟨hs.status, hs.aQ, hs.stay, by simp, by simpa using hs.many, ⟨?_, ?_⟩, lq.2 ⟨Dn hle h1, ⟨x, (h2.up hle).put ?_⟩, h3⟩⟩, rfl⟩
  · have := hc.1; simp; omega
  · intro d hd
    rcases List.mem_append.1 hd with hd | hd
    · have := hc.2 d hd
      exact ⟨this.1, fun v hv => (this.2 v hv).up hle⟩
    · simp at hd; subst hd
      refine ⟨by simp; omega, fun v hv => ?_⟩
      have := List.eq_of_mem_replicate hv
      subst this
      unfold ik; simp
  · unfold ik; simp; try omega
theorem Rk (ha : mo a) (h : oL a pre f cells x c) (hw : wh = 0) {t : LX.State} {said : Option Int} {p : Bool} (hs : mP a pre f cells 0 wh x c = some (t, said, p)) :
    sG a t ∧ (t.status = 0 ∨ t.status = 1 ∧ p = false ∨ t.status = 3 ∧ p = true) ∧ (said.isSome → t.status = 0 ∧ c.op = 9) := by
  subst hw
  have UK := h.zY
  have hput : ∀ {v : Val}, ik cells.length v → sG a ⟨pre ++ [{ zY f x with regs := f.regs.set c.a.toNat v }], cells, 0, 0⟩ := fun hv => h.st (UK.put hv) rfl h.PG (Nat.le_refl _) (.inl ⟨rfl, rfl⟩)
  have A7 : sG a ⟨pre ++ [zY f x], cells, 0, 0⟩ := h.st UK rfl h.PG (Nat.le_refl _) (.inl ⟨rfl, rfl⟩)
  have PL : (0 ≤ c.b ∧ c.b < x.code.length) → sG a ⟨pre ++ [{ zY f x with at_ := c.b }], cells, 0, 0⟩ := fun hb => h.st (UK.jump hb) rfl h.PG (Nat.le_refl _) (.inl ⟨rfl, rfl⟩)
  unfold mP at hs
  rcases h.good with g | g | g | g | g | g | g | g | g | g
  · obtain ⟨hop, hr, hb⟩ := g
    simp only [hop, Int.reduceEq, if_true, if_false] at hs
    cases hs
    exact ⟨hput (.inr (.inl ⟨rfl, hb.1, hb.2⟩)), .inl rfl, by simp⟩
  · obtain ⟨hop, hr, hb⟩ := g
    simp only [hop, Int.reduceEq, if_true, if_false] at hs
    cases hs
    exact ⟨hput (h.reg hb).2, .inl rfl, by simp⟩
  · obtain ⟨hop, hr, hb, hc, n, hn, hn1⟩ := g
    simp only [hop, hn, Int.reduceEq, if_true, if_false, List.headD_cons] at hs
    obtain ⟨v, hv, hs⟩ := Option.map_eq_some_iff.1 hs
    cases hs
    exact ⟨hput (opP_ok hn1 hv), .inl rfl, by simp⟩
  · obtain ⟨hop, hr, hb, hc⟩ := g
    rcases hop with hop | hop
    · simp only [hop, Int.reduceEq, if_true, if_false] at hs
      split at hs
      · cases hs
      · rename_i hbad
        cases hs
        have hk : (gG f.regs c.b).kind = 2 := by omega
        have hv := (h.reg hb).2
        have hcell := h.PG.at (hv.ref hk)
        exact ⟨hput (hcell.2 _ (yS rfl ⟨hc.1, by omega⟩).2), .inl rfl, by simp⟩
    · simp only [hop, Int.reduceEq, if_true, if_false] at hs
      split at hs
      · cases hs
      · rename_i hbad
        cases hs
        have hk : (gG f.regs c.a).kind = 2 := by omega
        have hv := (h.reg hr).2
        have hcell := h.PG.at (hv.ref hk)
        refine ⟨h.st (by simpa using UK) rfl ⟨by simpa using h.PG.1, fun d hd => ?_⟩ (by simp) (.inl ⟨rfl, rfl⟩), .inl rfl, by simp⟩
        rw [List.length_set]
        rcases List.mem_or_eq_of_mem_set hd with hd | rfl
        · exact h.PG.2 d hd
        · exact ⟨by simpa using hcell.1, PK hcell.2 (h.reg hb).2⟩
  · obtain ⟨hop, hr, hb⟩ := g
    simp only [hop, Int.reduceEq, if_true, if_false] at hs
    obtain ⟨u, hu, hs⟩ := Option.map_eq_some_iff.1 hs
    cases hs
    split at hu
    · have hsw := Gg ha A7
      rw [AY] at hu hsw
      have := SL (s := t) hu hsw hb
      exact ⟨this.1, .inl this.2, by simp⟩
    · have := SL (s := t) hu A7 hb
      exact ⟨this.1, .inl this.2, by simp⟩
  · obtain ⟨hop, hr, ⟨p1, hp, hl⟩, hargs⟩ := g
    simp only [hop, Int.reduceEq, if_true, if_false] at hs
    split at hs
    · cases hs
    · rename_i h10
      cases hs
      have hpr := ha.mem hp
      have hm := h.many
      refine ⟨⟨by simp, by simp, by simp, by simp, by simp; omega, h.PG, lq.2 ⟨A7.frames, ⟨p1, ⟨hp, ?_, ?_, ?_⟩⟩, ?_⟩⟩, .inl rfl, by simp⟩
      · have := hpr.2.2.2; unfold rJ at this; simp only; omega
      · simp only [hp, Option.map_some, Option.getD_some, List.length_append, List.length_map, List.length_replicate]; omega
      · intro v hv
        rcases List.mem_append.1 hv with hv | hv
        · obtain ⟨k, hk, rfl⟩ := List.mem_map.1 hv
          exact (h.reg (hargs k hk)).2
        · have := List.eq_of_mem_replicate hv
          subst this; unfold ik; simp
      · simp only [List.getLast?_append, List.getLast?_singleton, Option.some_or]
        have h1 := UK.regs
        rw [h1]; exact hr
  · obtain ⟨hop, hr⟩ := g
    rcases hop with hop | hop | hop
    · simp only [hop, Int.reduceEq, if_true, if_false] at hs
      rcases List.eq_nil_or_concat pre with hp | ⟨q, g, hp⟩
      · subst hp
        simp only [List.getLast?_nil] at hs
        cases hs
        exact ⟨⟨by simp, by simp, by simp, by simp, by simp, h.PG, trivial⟩, .inr (.inl ⟨rfl, rfl⟩), by simp⟩
      · rw [List.concat_eq_append] at hp
        subst hp
        simp only [List.getLast?_append, List.getLast?_singleton, Option.some_or, List.dropLast_concat] at hs
        cases hs
        obtain ⟨c1, ⟨y, c2⟩, c3⟩ := lq.1 h.chain
        have hm := h.many
        simp only [List.length_append, List.length_cons, List.length_nil] at hm
        exact ⟨⟨by simp, by simp, by simp, by simp, by simp; omega, h.PG, lq.2 ⟨c1, ⟨y, c2.put (h.reg hr).2⟩, c3⟩⟩, .inl rfl, by simp⟩
    · simp only [hop, Int.reduceEq, if_true, if_false] at hs
      split at hs
      · cases hs; exact ⟨A7, .inl rfl, fun _ => ⟨rfl, hop⟩⟩
      · cases hs
    · simp only [hop, Int.reduceEq, if_true, if_false] at hs
      split at hs
      · rename_i hk
        cases hs
        exact ⟨h.st UK rfl h.PG (Nat.le_refl _) (.inr ⟨rfl, (h.reg hr).2.int hk⟩), .inr (.inr ⟨rfl, rfl⟩), by simp⟩
      · cases hs
  · simp only [g, Int.reduceEq, if_true, if_false] at hs
    cases hs; exact ⟨A7, .inl rfl, by simp⟩
  · obtain ⟨hop, hb⟩ := g
    simp only [hop, Int.reduceEq, if_true, if_false] at hs
    cases hs; exact ⟨PL hb, .inl rfl, by simp⟩
  · obtain ⟨hop, hr, hb⟩ := g
    simp only [hop, Int.reduceEq, if_true, if_false] at hs
    cases hs
    split
    · exact ⟨PL hb, .inl rfl, by simp⟩
    · exact ⟨A7, .inl rfl, by simp⟩
end
end Go.Proofs.YtfclkapelkhlpaaGreatDoor
namespace Go.Proofs.YtfclkapelkhlpaaGreatDoor
open Go Go.Proofs Go.LX
def SN (a : List bQ) (f : LX.Frame) : Option (bQ × Ins) := (idx a f.proc).bind fun x => (idx x.code f.at_).map fun c => (x, c)
def yT (a : List bQ) (s : LX.State) : Option (LX.State × Option Int × Bool) :=
  s.frames.getLast?.bind fun f => (SN a f).bind fun q => mP a s.frames.dropLast f s.cells s.status s.aQ q.1 q.2
def Cn (a : List bQ) (s : LX.State) : Int := ((s.frames.getLast?.bind fun f => SN a f).map fun q => q.2.op).getD 0
def tJ (a : List bQ) : Nat → List Int → Nat → LX.State → LX.State × List Int × Nat
  | 0, said, n, s => (s, said, n)
  | m + 1, said, n, s =>
    if s.status ≠ 0 then (s, said, n) else
    if said.length = 40 ∧ Cn a s = 9 then (s, said, n) else
    match yT a s with
    | none => ({ s with status := 2 }, said, n + 1)
    | some (t, o, p) => if p then (t, said ++ o.toList, n + 1) else tJ a m (said ++ o.toList) (n + 1) t
theorem A8 {a : List bQ} (ha : mo a) {s : LX.State} (h : sG a s) (hs : s.status = 0) : ∃ pre f x c, s = ⟨pre ++ [f], s.cells, 0, 0⟩ ∧ oL a pre f s.cells x c ∧ yT a s = mP a pre f s.cells 0 0 x c ∧ Cn a s = c.op := by
  obtain ⟨fr, cells, st, wh⟩ := s
  simp only at hs
  subst hs
  have hw : wh = 0 := h.stay (by simp)
  subst hw
  rcases List.eq_nil_or_concat fr with hp | ⟨pre, f, hp⟩
  · have := h.ended.2 hp; simp at this
  · rw [List.concat_eq_append] at hp
    subst hp
    obtain ⟨x, c, g⟩ := top_ok ha h
    refine ⟨pre, f, x, c, rfl, g, ?_, ?_⟩
    · unfold yT SN
      simp only [List.getLast?_append, List.getLast?_singleton, Option.some_or, List.dropLast_concat, bnd, g.fr.proc, g.ins, Option.map_some]
    · unfold Cn SN
      simp only [List.getLast?_append, List.getLast?_singleton, Option.some_or, bnd, g.fr.proc, g.ins, Option.map_some, Option.getD_some]
theorem UL {a : List bQ} (ha : mo a) {s : LX.State} (h : sG a s) (hs : s.status = 0) {N : Nat} (hN : 100 ≤ N) : R1 (pX N s a) (yT a s) := by
  obtain ⟨pre, f, x, c, h1, h2, h3, -⟩ := A8 ha h hs
  rw [h3]
  generalize s.cells = cells at *
  subst h1
  exact Ri ha hN h2
theorem zA {a : List bQ} (ha : mo a) {s : LX.State} (h : sG a s) (hs : s.status = 0) {t : LX.State} {o : Option Int} {p : Bool} (hq : yT a s = some (t, o, p)) :
    sG a t ∧ (t.status = 0 ∨ t.status = 1 ∧ p = false ∨ t.status = 3 ∧ p = true) ∧ (o.isSome → t.status = 0 ∧ Cn a s = 9) := by
  obtain ⟨pre, f, x, c, h1, h2, h3, h4⟩ := A8 ha h hs
  rw [h3] at hq
  rw [h4]
  exact Rk ha h2 rfl hq
theorem UM {a : List bQ} (ha : mo a) {s : LX.State} (h : sG a s) (hs : s.status = 0) : (s.frames.length ≤ 10 ∧ 1 ≤ s.frames.length) ∧ ∃ f x c, idx s.frames ((s.frames.length : Int) - 1) = some f ∧ idx a f.proc = some x ∧ idx x.code f.at_ = some c ∧ c.op = Cn a s := by
  obtain ⟨pre, f, x, c, h1, h2, h3, h4⟩ := A8 ha h hs
  refine ⟨⟨h.many, by rw [h1]; simp⟩, f, x, c, ?_, h2.fr.proc, h2.ins, h4.symm⟩
  have : s.frames = pre ++ [f] := by rw [h1]
  rw [this, p8, Gd]
theorem ZE {a : List bQ} {s : LX.State} (h : sG a s) (hs : s.status = 0) : sG a { s with status := 2 } := by
  have hw : s.aQ = 0 := h.stay (by omega)
  refine ⟨by simp, h.aQ, fun _ => hw, ?_, h.many, h.cells, h.frames⟩
  constructor
  · intro e; simp at e
  · intro e
    have := h.ended.2 e
    omega
theorem PM {a : List bQ} (ha : mo a) {N : Nat} (hN : 100 ≤ N) (c : Int) : ∀ (m M : Nat) (said : List Int) (n : Nat) (s : LX.State), sG a s → said.length ≤ 40 → c = (n : Int) + m → c ≤ 2000 → m < M →
    again (tH N c a) M (said, (n : Int), s.frames, s.cells, s.status, s.aQ) = some ((tJ a m said n s).1, (tJ a m said n s).2.1, ((tJ a m said n s).2.2 : Int), 0)
  | m, 0, said, n, s, h, hl, hc, hb, hM => by omega
  | 0, M + 1, said, n, s, h, hl, hc, hb, hM => by
    rw [yf]
    unfold tH uq tJ
    simp only
    rw [show (decide ((n : Int) < c) && decide ((s.status : Int) = 0)) = false by rw [dF (by omega)]; rfl, cond_false]
  | m + 1, M + 1, said, n, s, h, hl, hc, hb, hM => by
    rw [yf]
    have ih := PM ha hN c m M
    generalize again (tH N c a) M = K at ih ⊢
    unfold tH tJ
    simp only
    by_cases hs : s.status = 0
    · rw [dT (by omega), dT hs, Bool.true_and, cond_true, if_neg (by omega)]
      obtain ⟨hfr, f, x, i, r1, r2, r3, r4⟩ := UM ha h hs
      rw [gI (by omega) (by omega), r1, bnd]
      have go : yP N said n s.frames s.cells s.status s.aQ a K false = some (match yT a s with
          | none => ({ s with status := 2 }, said, ((n + 1 : Nat) : Int), 0)
          | some (t, o, p) => if p then (t, said ++ o.toList, ((n + 1 : Nat) : Int), 0) else ((tJ a m (said ++ o.toList) (n + 1) t).1, (tJ a m (said ++ o.toList) (n + 1) t).2.1, ((tJ a m (said ++ o.toList) (n + 1) t).2.2 : Int), 0)) ∨ (said.length = 40 ∧ Cn a s = 9) := by
        by_cases hstop : said.length = 40 ∧ Cn a s = 9
        · exact .inr hstop
        left
        unfold yP
        rw [cond_false, show (⟨s.frames, s.cells, s.status, s.aQ⟩ : LX.State) = s from rfl, copy_eq (h.small ha), bnd]
        obtain ⟨o, ok, s', e1, e2⟩ := UL ha h hs hN
        rw [e1, bnd, gI (by omega) (by omega)]
        cases eq : yT a s with
        | none =>
          rw [eq] at e2
          simp only at e2
          subst e2
          simp only [Bool.not_false, cond_true]
          unfold uq
          push_cast; rfl
        | some q =>
          obtain ⟨t, o2, p⟩ := q
          rw [eq] at e2
          obtain ⟨rfl, rfl, rfl⟩ := e2
          have hk := zA ha h hs eq
          simp only [Bool.not_true, cond_false]
          have fin : ∀ l, l = said ++ o2.toList → l.length ≤ 40 → yO (⟨o2.isSome, o2.getD 0, p⟩, true, s') n K l = some (if p then (s', said ++ o2.toList, ((n + 1 : Nat) : Int), 0) else ((tJ a m (said ++ o2.toList) (n + 1) s').1, (tJ a m (said ++ o2.toList) (n + 1) s').2.1, ((tJ a m (said ++ o2.toList) (n + 1) s').2.2 : Int), 0)) := by
            intro l hl1 hl2
            subst hl1
            unfold yO uq
            simp only
            cases p with
            | true => rw [cond_true, if_pos rfl]; push_cast; rfl
            | false =>
              rw [cond_false, if_neg (by simp)]
              have := ih (said ++ o2.toList) (n + 1) s' hk.1 hl2 (by push_cast; omega) hb (by omega)
              rw [← this]; push_cast; rfl
          cases o2 with
          | none =>
            simp only [Option.isSome_none, cond_false]
            exact fin said (by simp) hl
          | some z =>
            have h9 := (hk.2.2 rfl).2
            simp only [Option.isSome_some, cond_true]
            rw [tX (room_le (by simp; omega) (by decide))]
            exact fin (said ++ [z]) (by simp) (by simp; omega)
      by_cases UN : said.length = 40
      · rw [dT (by omega), cond_true, r2, bnd, r3, bnd, r4]
        by_cases h9 : Cn a s = 9
        · rw [if_pos ⟨UN, h9⟩, dT h9]; rfl
        · rw [if_neg (fun e => h9 e.2), dF h9]
          rcases go with go | go
          · rw [go]; cases yT a s with
            | none => rfl
            | some q => obtain ⟨t, o, p⟩ := q; cases p <;> rfl
          · exact absurd go.2 h9
      · rw [dF (by omega), cond_false, if_neg (fun e => UN e.1)]
        rcases go with go | go
        · rw [go]; cases yT a s with
          | none => rfl
          | some q => obtain ⟨t, o, p⟩ := q; cases p <;> rfl
        · exact absurd go.1 UN
    · rw [dF hs, Bool.and_false, cond_false, if_pos hs]; rfl
theorem Im {a : List bQ} (ha : mo a) : ∀ (m : Nat) (said : List Int) (n : Nat) (s : LX.State), sG a s → said.length ≤ 40 →
    sG a (tJ a m said n s).1 ∧ (tJ a m said n s).2.1.length ≤ 40 ∧ n ≤ (tJ a m said n s).2.2 ∧ (tJ a m said n s).2.2 ≤ n + m ∧ said <+: (tJ a m said n s).2.1 ∧ (tJ a m said n s).2.1.length ≤ said.length + ((tJ a m said n s).2.2 - n) ∧ ((tJ a m said n s).2.2 = n → (tJ a m said n s).1 = s)
  | 0, said, n, s, h, hl => ⟨h, hl, Nat.le_refl _, Nat.le_refl _, List.prefix_refl _, by simp [tJ], fun _ => rfl⟩
  | m + 1, said, n, s, h, hl => by
    unfold tJ
    by_cases hs : s.status = 0
    · rw [if_neg (by omega)]
      by_cases UN : said.length = 40 ∧ Cn a s = 9
      · rw [if_pos UN]; exact ⟨h, hl, Nat.le_refl _, by simp, List.prefix_refl _, by simp, fun _ => rfl⟩
      · rw [if_neg UN]
        cases eq : yT a s with
        | none => exact ⟨ZE h hs, hl, by simp, by simp, List.prefix_refl _, by simp, fun e => by simp at e⟩
        | some q =>
          obtain ⟨t, o, p⟩ := q
          have hk := zA ha h hs eq
          have hlen : (said ++ o.toList).length ≤ 40 := by
            cases o with
            | none => simpa using hl
            | some z => have h9 := (hk.2.2 rfl).2; simp; omega
          have ho : o.toList.length ≤ 1 := by cases o <;> simp
          simp only
          split
          · exact ⟨hk.1, hlen, by simp, by simp, List.prefix_append _ _, by show (said ++ o.toList).length ≤ said.length + (n + 1 - n); rw [List.length_append]; omega, fun e => by simp at e⟩
          · obtain ⟨i1, i2, i3, i4, i5, i6, i7⟩ := Im ha m (said ++ o.toList) (n + 1) t hk.1 hlen
            refine ⟨i1, i2, by omega, by omega, (List.prefix_append _ _).trans i5, ?_, fun e => by omega⟩
            rw [List.length_append] at i6; omega
    · rw [if_pos hs]; exact ⟨h, hl, Nat.le_refl _, by simp, List.prefix_refl _, by simp, fun _ => rfl⟩
theorem Mk (a : List bQ) (s : LX.State) (c : Int) {N : Nat} (hN : 3000 ≤ N) : Kh N a s c = some (if Pt a ≠ 0 then (⟨[], [], 0, 0⟩, [], 0, Pt a) else if Rh a s ≠ 0 then (⟨[], [], 0, 0⟩, [], 0, Rh a s) else if c < 0 ∨ 2000 < c then (⟨[], [], 0, 0⟩, [], 0, 3) else if s.status ≠ 0 then (⟨[], [], 0, 0⟩, [], 0, 7) else ((tJ a c.toNat [] 0 s).1, (tJ a c.toNat [] 0 s).2.1, ((tJ a c.toNat [] 0 s).2.2 : Int), 0)) := by
  unfold Kh
  rw [Dj, bnd]
  by_cases h1 : Pt a = 0
  · rw [if_neg (by omega), if_neg (by omega)]
    by_cases h2 : Rh a s = 0
    · rw [dF (by omega), cond_false, if_neg (by omega)]
      by_cases h3 : c < 0 ∨ 2000 < c
      · rw [show (decide ((c : Int) < 0) || decide ((2000 : Int) < c)) = true by rw [Bool.or_eq_true]; simp only [decide_eq_true_eq]; exact h3, cond_true, if_pos h3]
      · rw [show (decide ((c : Int) < 0) || decide ((2000 : Int) < c)) = false by rw [Bool.or_eq_false_iff]; simp only [decide_eq_false_iff_not]; omega, cond_false, if_neg h3]
        by_cases h4 : s.status = 0
        · rw [dF (by omega), cond_false, if_neg (by omega)]
          have ha := Dh h1
          have hs := EY.1 h2
          rw [copy_eq (hs.small ha), bnd]
          have := PM ha (N := N) (by omega) c c.toNat N [] 0 s hs (by simp) (by omega) (by omega) (by omega)
          exact this
        · rw [dT h4, cond_true, if_pos h4]
    · rw [dT h2, cond_true, if_pos h2]
  · rw [if_pos h1, if_pos h1, dT h1, cond_true]
end Go.Proofs.YtfclkapelkhlpaaGreatDoor
namespace Go.Proofs.YtfclkapelkhlpaaGreatDoor
open Go Go.Proofs Go.LX
theorem X4 : 3000 ≤ NN := by decide
end Go.Proofs.YtfclkapelkhlpaaGreatDoor
namespace Go.Proofs.YtfclkapelkhlpaaGreatDoor
open Go Go.Proofs Go.LX
def oM (ρ : Int → Int) (v : Val) : Val := if v.kind = 2 then ⟨v.kind, ρ v.n⟩ else v
def iY (ρ : Int → Int) (f : LX.Frame) : LX.Frame := { f with regs := f.regs.map (oM ρ) }
structure Jb (ρ : Int → Int) (R : List Int) (s t : LX.State) : Prop where
  frames : t.frames = s.frames.map (iY ρ)
  status : t.status = s.status
  aQ : t.aQ = s.aQ
  roots : gq (YtfclkapelkhlpaaGreatDoor.roots s.frames) R
  range : ∀ x ∈ R, 0 ≤ x ∧ x < s.cells.length
  range' : ∀ x ∈ R, 0 ≤ ρ x ∧ ρ x < t.cells.length
  inj : ∀ x ∈ R, ∀ y ∈ R, ρ x = ρ y → x = y
  cells : ∀ x ∈ R, cellAt t.cells (ρ x) = (cellAt s.cells x).map (oM ρ) ∧ gq (cellAt s.cells x) R
theorem uw (ρ : Int → Int) (v : Val) : (oM ρ v).kind = v.kind := by unfold oM; split <;> rfl
theorem Gh (ρ : Int → Int) {v : Val} (h : v.kind = 2) : oM ρ v = ⟨v.kind, ρ v.n⟩ := if_pos h
theorem zB (ρ : Int → Int) {v : Val} (h : v.kind ≠ 2) : oM ρ v = v := if_neg h
section
variable {ρ : Int → Int} {R : List Int} {s t : LX.State}
theorem PN (hi : ∀ x ∈ R, ∀ y ∈ R, ρ x = ρ y → x = y) {l : List Int} (hl : ∀ x ∈ l, x ∈ R) {x : Int} (hx : x ∈ R) : ρ x ∈ l.map ρ ↔ x ∈ l := by
  constructor
  · intro h
    obtain ⟨y, hy, e⟩ := List.mem_map.1 h
    rw [← hi y (hl y hy) x hx e]; exact hy
  · exact fun h => List.mem_map_of_mem h
theorem Em (hi : ∀ x ∈ R, ∀ y ∈ R, ρ x = ρ y → x = y) : ∀ {l : List Int}, (∀ x ∈ l, x ∈ R) → ∀ {x : Int}, x ∈ R → (l.map ρ).idxOf (ρ x) = l.idxOf x
  | [], _, x, _ => rfl
  | y :: l, hl, x, hx => by
    rw [List.map_cons, List.idxOf_cons, List.idxOf_cons, Em hi (fun z hz => hl z (List.mem_cons_of_mem _ hz)) hx]
    by_cases e : y = x
    · subst e; simp
    · have e2 : ρ y ≠ ρ x := fun h => e (hi y (hl y (by simp)) x hx h)
      rw [show (ρ y == ρ x) = false by simpa using e2, show (y == x) = false by simpa using e]
theorem X5 (hi : ∀ x ∈ R, ∀ y ∈ R, ρ x = ρ y → x = y) {l : List Int} (hl : ∀ x ∈ l, x ∈ R) {v : Val} (hv : v.kind = 2 → v.n ∈ R) : Ga (l.map ρ) (oM ρ v) = (Ga l v).map ρ ∧ ∀ x ∈ Ga l v, x ∈ R := by
  unfold Ga
  by_cases hk : v.kind = 2
  · rw [Gh ρ hk]
    simp only [hk, true_and]
    have hm' := PN hi hl (hv hk)
    by_cases hm : v.n ∈ l
    · rw [if_neg (fun h => h (hm'.2 hm)), if_neg (fun h => h hm)]; exact ⟨rfl, hl⟩
    · rw [if_pos (fun h => hm (hm'.1 h)), if_pos hm]
      refine ⟨by simp, fun x hx => ?_⟩
      rcases List.mem_append.1 hx with hx | hx
      · exact hl x hx
      · simp at hx; subst hx; exact hv hk
  · rw [zB ρ hk, if_neg (fun h => hk h.1), if_neg (fun h => hk h.1)]; exact ⟨rfl, hl⟩
theorem KC (hi : ∀ x ∈ R, ∀ y ∈ R, ρ x = ρ y → x = y) : ∀ {vs : List Val} {l : List Int}, (∀ x ∈ l, x ∈ R) → gq vs R → Gb (l.map ρ) (vs.map (oM ρ)) = (Gb l vs).map ρ ∧ ∀ x ∈ Gb l vs, x ∈ R
  | [], l, hl, _ => ⟨rfl, hl⟩
  | v :: vs, l, hl, hv => by
    obtain ⟨h1, h2⟩ := X5 hi hl (hv v (by simp))
    rw [List.map_cons, DZ, DZ, h1]
    exact KC hi h2 (fun w hw => hv w (List.mem_cons_of_mem _ hw))
theorem Jb.Lc (h : Jb ρ R s t) : ∀ (m k : Nat) (l : List Int), (∀ x ∈ l, x ∈ R) → Lc t.cells m k (l.map ρ) = (Lc s.cells m k l).map ρ ∧ ∀ x ∈ Lc s.cells m k l, x ∈ R
  | 0, k, l, hl => ⟨rfl, hl⟩
  | m + 1, k, l, hl => by
    unfold YtfclkapelkhlpaaGreatDoor.Lc
    by_cases hk : k < l.length
    · rw [dif_pos hk, dif_pos (by simpa using hk)]
      have hx := hl _ (List.getElem_mem hk)
      have hc := h.cells _ hx
      rw [List.getElem_map, hc.1]
      obtain ⟨h1, h2⟩ := KC h.inj hl hc.2
      rw [h1]
      exact Jb.Lc h m (k + 1) _ h2
    · rw [dif_neg hk, dif_neg (by simpa using hk)]; exact ⟨rfl, hl⟩
theorem Ml (ρ : Int → Int) : ∀ fr : List LX.Frame, YtfclkapelkhlpaaGreatDoor.roots (fr.map (iY ρ)) = (YtfclkapelkhlpaaGreatDoor.roots fr).map (oM ρ)
  | [] => rfl
  | f :: fr => by
    have := Ml ρ fr
    unfold YtfclkapelkhlpaaGreatDoor.roots at *
    rw [List.map_cons, List.flatMap_cons, List.flatMap_cons, List.map_append, this]; rfl
theorem Jb.reach (h : Jb ρ R s t) : di t = (di s).map ρ ∧ ∀ x ∈ di s, x ∈ R := by
  unfold di Dk
  rw [h.frames, Ml]
  obtain ⟨h1, h2⟩ := KC h.inj (l := []) (fun x hx => by cases hx) h.roots
  rw [List.map_nil] at h1
  rw [h1]
  exact h.Lc 25 0 _ h2
theorem SQ (h : Jb ρ R s t) {v : Val} (hv : v.kind = 2 → v.n ∈ R) : ren (di t) (oM ρ v) = ren (di s) v := by
  unfold ren
  rw [uw]
  by_cases hk : v.kind = 2
  · rw [if_pos hk, if_pos hk, Gh ρ hk, h.reach.1, Em h.inj h.reach.2 (hv hk)]
  · rw [if_neg hk, if_neg hk, zB ρ hk]
theorem q8 {α β : Type} {f g : α → β} : ∀ {l : List α}, (∀ x ∈ l, f x = g x) → l.map f = l.map g := fun h => List.map_congr_left h
theorem Jb.SS (h : Jb ρ R s t) : cZ t = cZ s := by
  have hfr : t.frames.map (zS (di t)) = s.frames.map (zS (di s)) := by
    rw [h.frames, List.map_map]
    refine q8 (fun f hf => ?_)
    have : (f.regs.map (oM ρ)).map (ren (di t)) = f.regs.map (ren (di s)) := by
      rw [List.map_map]
      exact q8 (fun v hv => SQ h (yR h.roots f hf v hv))
    show zS (di t) (iY ρ f) = zS (di s) f
    unfold zS iY
    simp only [this]
  have hcs : (di t).map (fun k => (cellAt t.cells k).map (ren (di t))) = (di s).map (fun k => (cellAt s.cells k).map (ren (di s))) := by
    conv => lhs; rw [h.reach.1]
    rw [List.map_map]
    refine q8 (fun k hk => ?_)
    have hc := h.cells k (h.reach.2 k hk)
    show (cellAt t.cells (ρ k)).map (ren _) = _
    rw [hc.1, List.map_map, ← h.reach.1]
    exact q8 (fun v hv => SQ h (hc.2 v hv))
  unfold cZ
  rw [hfr, hcs, h.status, h.aQ]
end
theorem Cc {cells : List (List Val)} {i : Nat} (h : i < cells.length) : cellAt cells (i : Int) = cells[i] := by unfold cellAt; rw [vO h]; rfl
theorem UO {s : LX.State} (h : Dm s) : Jb (fun x => ((di s).idxOf x : Nat)) (di s) s (cZ s) where
  frames := rfl
  status := rfl
  aQ := rfl
  roots := h.reach.2.1
  range := h.reach.1.2
  range' x hx := by
    have := List.idxOf_lt_length_of_mem hx
    simp only [cZ, List.length_map]; omega
  inj x hx y hy e := by
    have e' : (di s).idxOf x = (di s).idxOf y := by omega
    have h1 := List.getElem_idxOf (List.idxOf_lt_length_of_mem hx)
    have h2 := List.getElem_idxOf (List.idxOf_lt_length_of_mem hy)
    rw [← h1, ← h2]; simp only [e']
  cells x hx := by
    have hlt := List.idxOf_lt_length_of_mem hx
    refine ⟨?_, h.reach.2.2 x hx⟩
    rw [Cc (by simpa [cZ] using hlt)]
    simp only [cZ, List.getElem_map]
    rw [List.getElem_idxOf hlt]; rfl
theorem EZ {s : LX.State} (h : Dm s) : cZ (cZ s) = cZ s := (UO h).SS
end Go.Proofs.YtfclkapelkhlpaaGreatDoor
namespace Go.Proofs.YtfclkapelkhlpaaGreatDoor
open Go Go.Proofs Go.LX
theorem map_eq_map {α β : Type} {f g : α → β} {k : α → α} : ∀ {l m : List α}, l.map f = m.map g → (∀ x ∈ l, ∀ y ∈ m, f x = g y → y = k x) → m = l.map k
  | [], [], _, _ => rfl
  | [], y :: m, h, _ => by simp at h
  | x :: l, [], h, _ => by simp at h
  | x :: l, y :: m, h, hk => by
    rw [List.map_cons, List.map_cons, List.cons.injEq] at h
    rw [List.map_cons, hk x (by simp) y (by simp) h.1, map_eq_map h.2 (fun a ha b hb => hk a (List.mem_cons_of_mem _ ha) b (List.mem_cons_of_mem _ hb))]
theorem X6 {l m : List Int} (hlen : l.length = m.length) {v w : Val} (hv : v.kind = 2 → v.n ∈ l) (hw : w.kind = 2 → w.n ∈ m) (h : ren l v = ren m w) : w = oM (fun x => m[l.idxOf x]?.getD 0) v := by
  obtain ⟨k, n⟩ := v
  obtain ⟨k', n'⟩ := w
  unfold ren at h
  by_cases h1 : k = 2
  · subst h1
    by_cases h2 : k' = 2
    · subst h2
      simp only [if_true, Val.mk.injEq, true_and] at h
      have hi : l.idxOf n = m.idxOf n' := by omega
      have hm := List.idxOf_lt_length_of_mem (hw rfl)
      unfold oM
      simp only [if_true]
      rw [hi, List.getElem?_eq_getElem hm, Option.getD_some, List.getElem_idxOf hm]
    · simp only [if_true, if_neg h2, Val.mk.injEq] at h
      exact absurd h.1.symm h2
  · by_cases h2 : k' = 2
    · subst h2
      simp only [if_true, if_neg h1, Val.mk.injEq] at h
      exact absurd h.1 h1
    · simp only [if_neg h1, if_neg h2] at h
      unfold oM
      simp only [if_neg h1]
      exact h.symm
theorem UQ {l : List Int} (h : l.Nodup) {i j : Nat} (hi : i < l.length) (hj : j < l.length) (e : l[i] = l[j]) : i = j := by
  rcases Nat.lt_trichotomy i j with hlt | rfl | hlt
  · exact absurd e (List.pairwise_iff_getElem.1 h i j hi hj hlt)
  · rfl
  · exact absurd e.symm (List.pairwise_iff_getElem.1 h j i hj hi hlt)
theorem Gi {s t : LX.State} (hs : Dm s) (ht : Dm t) (h : cZ s = cZ t) : Jb (fun x => (di t)[(di s).idxOf x]?.getD 0) (di s) s t := by
  have hlen : (di s).length = (di t).length := by
    have := congrArg (fun u : LX.State => u.cells.length) h
    simpa [cZ] using this
  have hf : s.frames.map (zS (di s)) = t.frames.map (zS (di t)) := congrArg (fun u : LX.State => u.frames) h
  have hc : (di s).map (fun k => (cellAt s.cells k).map (ren (di s))) = (di t).map (fun k => (cellAt t.cells k).map (ren (di t))) := congrArg (fun u : LX.State => u.cells) h
  have at_ : ∀ x ∈ di s, ∃ i, ∃ (h1 : i < (di s).length) (h2 : i < (di t).length), (di s).idxOf x = i ∧ (di s)[i] = x ∧ (di t)[(di s).idxOf x]?.getD 0 = (di t)[i] := by
    intro x hx
    have h1 := List.idxOf_lt_length_of_mem hx
    refine ⟨_, h1, by omega, rfl, List.getElem_idxOf h1, ?_⟩
    rw [List.getElem?_eq_getElem (by omega), Option.getD_some]
  refine ⟨?_, ?_, ?_, hs.reach.2.1, hs.reach.1.2, ?_, ?_, ?_⟩
  · refine map_eq_map hf (fun f hf1 g hg1 e => ?_)
    have e1 : f.regs.map (ren (di s)) = g.regs.map (ren (di t)) := congrArg (fun u : LX.Frame => u.regs) e
    have e2 := map_eq_map (k := oM (fun x => (di t)[(di s).idxOf x]?.getD 0)) e1 (fun v hv w hw e => X6 hlen (yR hs.reach.2.1 f hf1 v hv) (yR ht.reach.2.1 g hg1 w hw) e)
    obtain ⟨p, a, r, o⟩ := f
    obtain ⟨p', a', r', o'⟩ := g
    simp only [zS, LX.Frame.mk.injEq] at e
    simp only at e2
    unfold iY
    simp only [LX.Frame.mk.injEq]
    exact ⟨e.1.symm, e.2.1.symm, e2, e.2.2.2.symm⟩
  · exact (congrArg (fun u : LX.State => u.status) h).symm
  · exact (congrArg (fun u : LX.State => u.aQ) h).symm
  · intro x hx
    obtain ⟨i, h1, h2, h3, h4, h5⟩ := at_ x hx
    rw [h5]
    exact ht.reach.1.2 _ (List.getElem_mem _)
  · intro x hx y hy e
    obtain ⟨i, h1, h2, h3, h4, h5⟩ := at_ x hx
    obtain ⟨j, g1, g2, g3, g4, g5⟩ := at_ y hy
    rw [h5, g5] at e
    have : i = j := UQ ht.reach.1.1 h2 g2 e
    subst this
    rw [← h4, ← g4]
  · intro x hx
    obtain ⟨i, h1, h2, h3, h4, h5⟩ := at_ x hx
    refine ⟨?_, hs.reach.2.2 x hx⟩
    rw [h5]
    have hci : (cellAt s.cells (di s)[i]).map (ren (di s)) = (cellAt t.cells (di t)[i]).map (ren (di t)) := by
      have := congrArg (fun u : List (List Val) => u[i]?) hc
      simp only [List.getElem?_map, List.getElem?_eq_getElem h1, List.getElem?_eq_getElem h2, Option.map_some, Option.some.injEq] at this
      exact this
    rw [h4] at hci
    exact map_eq_map hci (fun v hv w hw e => X6 hlen (hs.reach.2.2 x hx v hv) (ht.reach.2.2 _ (List.getElem_mem _) w hw) e)
end Go.Proofs.YtfclkapelkhlpaaGreatDoor
namespace Go.Proofs.YtfclkapelkhlpaaGreatDoor
open Go Go.Proofs Go.LX
section
variable {a : List bQ} {ρ : Int → Int} {R : List Int} {s t : LX.State}
theorem Jb.mk' (h : Jb ρ R s t) {fr : List LX.Frame} (hr : gq (YtfclkapelkhlpaaGreatDoor.roots fr) R) (st wh : Int) : Jb ρ R ⟨fr, s.cells, st, wh⟩ ⟨fr.map (iY ρ), t.cells, st, wh⟩ :=
  ⟨rfl, rfl, rfl, hr, h.range, h.range', h.inj, h.cells⟩
theorem KD {cells : List (List Val)} {k j : Int} {c : List Val} (hk : 0 ≤ k ∧ k < cells.length) (hj : 0 ≤ j ∧ j < cells.length) : cellAt (cells.set k.toNat c) j = if j = k then c else cellAt cells j := by
  obtain ⟨n, rfl⟩ := Int.eq_ofNat_of_zero_le hk.1
  obtain ⟨m, rfl⟩ := Int.eq_ofNat_of_zero_le hj.1
  unfold cellAt
  rw [Int.toNat_natCast, nU, nU, List.getElem?_set]
  by_cases e : n = m
  · subst e; rw [if_pos rfl, if_pos (by omega), if_pos rfl]; rfl
  · rw [if_neg e, if_neg (by omega)]
theorem Gj {vs : List Val} {i : Nat} {v : Val} (h : gq vs R) (hv : v.kind = 2 → v.n ∈ R) : gq (vs.set i v) R := fun w hw hk => by
  rcases List.mem_or_eq_of_mem_set hw with hw | rfl
  · exact h w hw hk
  · exact hv hk
theorem Jb.put (h : Jb ρ R s t) {fr : List LX.Frame} (hr : gq (YtfclkapelkhlpaaGreatDoor.roots fr) R) {k : Int} (hk : k ∈ R) {i : Nat} {v : Val} (hv : v.kind = 2 → v.n ∈ R) (st wh : Int) :
    Jb ρ R ⟨fr, s.cells.set k.toNat ((cellAt s.cells k).set i v), st, wh⟩ ⟨fr.map (iY ρ), t.cells.set (ρ k).toNat ((cellAt t.cells (ρ k)).set i (oM ρ v)), st, wh⟩ := by
  refine ⟨rfl, rfl, rfl, hr, fun x hx => by simpa using h.range x hx, fun x hx => by simpa using h.range' x hx, h.inj, fun x hx => ?_⟩
  simp only
  rw [KD (h.range' k hk) (h.range' x hx), KD (h.range k hk) (h.range x hx)]
  have hc := h.cells x hx
  by_cases e : x = k
  · subst e
    rw [if_pos rfl, if_pos rfl, hc.1, List.map_set]
    exact ⟨rfl, Gj hc.2 hv⟩
  · rw [if_neg e, if_neg (fun q => e (h.inj x hx k hk q))]
    exact hc
theorem PO {ρ' : Int → Int} {f : LX.Frame} (hf : gq f.regs R) (he : ∀ x ∈ R, ρ' x = ρ x) : iY ρ' f = iY ρ f := by
  unfold iY
  have : f.regs.map (oM ρ') = f.regs.map (oM ρ) := q8 (fun v hv => by
    unfold oM
    by_cases hk : v.kind = 2
    · rw [if_pos hk, if_pos hk, he _ (hf v hv hk)]
    · rw [if_neg hk, if_neg hk])
  rw [this]
theorem KE {ρ' : Int → Int} {vs : List Val} (hf : gq vs R) (he : ∀ x ∈ R, ρ' x = ρ x) : vs.map (oM ρ') = vs.map (oM ρ) := q8 (fun v hv => by
    unfold oM
    by_cases hk : v.kind = 2
    · rw [if_pos hk, if_pos hk, he _ (hf v hv hk)]
    · rw [if_neg hk, if_neg hk])
theorem KF {cells : List (List Val)} {z : List Val} {k : Int} (hk : 0 ≤ k ∧ k < cells.length) : cellAt (cells ++ [z]) k = cellAt cells k := by
  obtain ⟨n, rfl⟩ := Int.eq_ofNat_of_zero_le hk.1
  rw [Cc (by simp; omega), Cc (by omega), List.getElem_append_left (by omega)]
theorem IQ {cells : List (List Val)} {z : List Val} : cellAt (cells ++ [z]) (cells.length : Int) = z := by
  rw [Cc (by simp)]; simp
theorem uy (p : List LX.Frame) (f : LX.Frame) : roots (p ++ [f]) = roots p ++ f.regs := by unfold roots; simp
theorem gq.app {u v : List Val} : gq (u ++ v) R ↔ gq u R ∧ gq v R := ⟨fun h => ⟨fun w hw => h w (List.mem_append_left _ hw), fun w hw => h w (List.mem_append_right _ hw)⟩, fun h w hw => (List.mem_append.1 hw).elim (h.1 w) (h.2 w)⟩
theorem Jb.new {p : List LX.Frame} {f : LX.Frame} {cells cs : List (List Val)} {st wh : Int} {q : List LX.Frame} {f' : LX.Frame} (h : Jb ρ R ⟨p ++ [f], cells, st, wh⟩ ⟨q ++ [f'], cs, st, wh⟩) (i : Nat) (z : Nat) :
    cZ ⟨q ++ [{ f' with regs := f'.regs.set i ⟨2, cs.length⟩ }], cs ++ [List.replicate z ⟨0, 0⟩], st, wh⟩ = cZ ⟨p ++ [{ f with regs := f.regs.set i ⟨2, cells.length⟩ }], cells ++ [List.replicate z ⟨0, 0⟩], st, wh⟩ := by
  have hfr := h.frames
  simp only [List.map_append, List.map_cons, List.map_nil] at hfr
  obtain ⟨hq, hf⟩ := List.append_inj' hfr rfl
  simp only [List.cons.injEq, and_true] at hf
  subst hq hf
  have qx := h.roots
  simp only [uy, gq.app] at qx
  have hrg := h.range
  have X7 := h.range'
  simp only at hrg X7
  have hnot : ∀ x ∈ R, x ≠ cells.length := fun x hx => by have := hrg x hx; omega
  let ρ' : Int → Int := fun x => if x = cells.length then cs.length else ρ x
  have he : ∀ x ∈ R, ρ' x = ρ x := fun x hx => if_neg (hnot x hx)
  have hl : ρ' cells.length = cs.length := if_pos rfl
  have I : Jb ρ' ((cells.length : Int) :: R) ⟨p ++ [{ f with regs := f.regs.set i ⟨2, cells.length⟩ }], cells ++ [List.replicate z ⟨0, 0⟩], st, wh⟩ ⟨p.map (iY ρ) ++ [{ iY ρ f with regs := (iY ρ f).regs.set i ⟨2, cs.length⟩ }], cs ++ [List.replicate z ⟨0, 0⟩], st, wh⟩ := by
    refine ⟨?_, rfl, rfl, ?_, ?_, ?_, ?_, ?_⟩
    · simp only [List.map_append, List.map_cons, List.map_nil]
      congr 1
      · exact q8 (fun g hg => (PO (yR qx.1 g hg) he).symm)
      · unfold iY
        simp only [List.map_set]
        rw [KE qx.2 he]
        congr 2
        simp only [oM, if_true, hl]
    · simp only [uy, gq.app]
      refine ⟨fun w hw hk => List.mem_cons_of_mem _ (qx.1 w hw hk), Gj (fun w hw hk => List.mem_cons_of_mem _ (qx.2 w hw hk)) (fun _ => by simp)⟩
    · intro x hx
      simp only [List.length_append, List.length_cons, List.length_nil]
      rcases List.mem_cons.1 hx with rfl | hx
      · omega
      · have := hrg x hx; omega
    · intro x hx
      simp only [List.length_append, List.length_cons, List.length_nil]
      rcases List.mem_cons.1 hx with rfl | hx
      · rw [hl]; omega
      · rw [he x hx]; have := X7 x hx; omega
    · intro x hx y hy e
      rcases List.mem_cons.1 hx with rfl | hx <;> rcases List.mem_cons.1 hy with rfl | hy
      · rfl
      · rw [hl, he y hy] at e; have := X7 y hy; omega
      · rw [hl, he x hx] at e; have := X7 x hx; omega
      · rw [he x hx, he y hy] at e; exact h.inj x hx y hy e
    · intro x hx
      simp only
      rcases List.mem_cons.1 hx with rfl | hx
      · rw [hl, IQ, IQ]
        refine ⟨by simp [oM], fun w hw hk => ?_⟩
        have := List.eq_of_mem_replicate hw
        subst this; simp at hk
      · rw [he x hx, KF (hrg x hx), KF (X7 x hx)]
        have hc := h.cells x hx
        rw [KE hc.2 he]
        exact ⟨hc.1, fun w hw hk => List.mem_cons_of_mem _ (hc.2 w hw hk)⟩
  exact I.SS
end
def Sim (x y : Option (LX.State × Option Int × Bool)) : Prop := match x, y with
  | none, none => True
  | some (s, o, p), some (t, o', p') => o = o' ∧ p = p' ∧ cZ s = cZ t
  | _, _ => False
section
variable {a : List bQ} {ρ : Int → Int} {R : List Int} {pre : List LX.Frame} {f : LX.Frame} {cells cs : List (List Val)} {x : bQ} {c : Ins}
theorem Mm {r : List Val} {n : Int} (hr : (r.length : Int) = n) {i : Int} (h : xJ n i) : gG (r.map (oM ρ)) i = oM ρ (gG r i) := by
  obtain ⟨k, rfl⟩ := Int.eq_ofNat_of_zero_le h.1
  have := h.2
  unfold gG
  rw [nU, nU, List.getElem?_map, List.getElem?_eq_getElem (by omega)]
  rfl
theorem ZF {k : Int} {b d : Val} (hi : ∀ x ∈ R, ∀ y ∈ R, ρ x = ρ y → x = y) (hb : b.kind = 2 → b.n ∈ R) (hd : d.kind = 2 → d.n ∈ R) : SI k (oM ρ b) (oM ρ d) = SI k b d ∧ ∀ v, SI k b d = some v → v.kind = 1 := by
  obtain ⟨k1, n1⟩ := b
  obtain ⟨k2, n2⟩ := d
  have key : ∀ v, SI k ⟨k1, n1⟩ ⟨k2, n2⟩ = some v → v.kind = 1 := by
    intro v h
    unfold SI at h
    split at h
    · cases h; rfl
    split at h
    · cases h
    split at h
    · cases h; rfl
    simp only at h
    generalize (if k = 1 then n1 + n2 else if k = 2 then n1 - n2 else n1 * n2) = z at h
    split at h
    · cases h; rfl
    · cases h
  refine ⟨?_, key⟩
  unfold SI
  by_cases h5 : k = 5
  · rw [if_pos h5, if_pos h5]
    have : (oM ρ ⟨k1, n1⟩ = oM ρ ⟨k2, n2⟩) ↔ ((⟨k1, n1⟩ : Val) = ⟨k2, n2⟩) := by
      unfold oM
      simp only
      by_cases e1 : k1 = 2
      · by_cases e2 : k2 = 2
        · rw [if_pos e1, if_pos e2]
          simp only [Val.mk.injEq]
          constructor
          · rintro ⟨q1, q2⟩; exact ⟨q1, hi _ (hb e1) _ (hd e2) q2⟩
          · rintro ⟨q1, q2⟩; exact ⟨q1, by rw [q2]⟩
        · rw [if_pos e1, if_neg e2]
          simp only [Val.mk.injEq]
          constructor <;> (rintro ⟨q1, q2⟩; omega)
      · by_cases e2 : k2 = 2
        · rw [if_neg e1, if_pos e2]
          simp only [Val.mk.injEq]
          constructor <;> (rintro ⟨q1, q2⟩; omega)
        · rw [if_neg e1, if_neg e2]
    by_cases e : (⟨k1, n1⟩ : Val) = ⟨k2, n2⟩
    · rw [if_pos e, if_pos (this.2 e)]
    · rw [if_neg e, if_neg (fun q => e (this.1 q))]
  · rw [if_neg h5, if_neg h5, uw, uw]
    by_cases h1 : k1 ≠ 1 ∨ k2 ≠ 1
    · rw [if_pos h1, if_pos h1]
    · rw [if_neg h1, if_neg h1]
      have e1 : oM ρ ⟨k1, n1⟩ = ⟨k1, n1⟩ := zB ρ (by simp only; omega)
      have e2 : oM ρ ⟨k2, n2⟩ = ⟨k2, n2⟩ := zB ρ (by simp only; omega)
      rw [e1, e2]
theorem SV (i : Nat) (v : Val) (g : LX.Frame) : ({ iY ρ g with regs := (iY ρ g).regs.set i (oM ρ v) } : LX.Frame) = iY ρ { g with regs := g.regs.set i v } := by unfold iY; simp only [List.map_set]
end
end Go.Proofs.YtfclkapelkhlpaaGreatDoor
namespace Go.Proofs.YtfclkapelkhlpaaGreatDoor
open Go Go.Proofs Go.LX
section
variable {a : List bQ} {ρ : Int → Int} {R : List Int} {pre : List LX.Frame} {f : LX.Frame} {cells cs : List (List Val)} {x : bQ} {c : Ins}
theorem tK {p : LX.State} {q : LX.State} {o : Option Int} {b : Bool} (h : Jb ρ R p q) : Sim (some (p, o, b)) (some (q, o, b)) := ⟨rfl, rfl, h.SS.symm⟩
theorem PQ (p : List LX.Frame) (g : LX.Frame) (ds : List (List Val)) (st wh : Int) : Ld ⟨p ++ [g], ds, st, wh⟩ c = if ds.length = 24 then none else some ⟨p ++ [{ g with regs := g.regs.set c.a.toNat ⟨2, ds.length⟩ }], ds ++ [List.replicate c.b.toNat ⟨0, 0⟩], st, wh⟩ := by
  unfold Ld
  simp only [List.dropLast_concat, List.getLast?_append, List.getLast?_singleton, Option.some_or, Option.map_some, Option.toList_some]
theorem X8 (ha : mo a) (h : oL a pre f cells x c) (h2 : oL a (pre.map (iY ρ)) (iY ρ f) cs x c) (hI : Jb ρ R ⟨pre ++ [f], cells, 0, 0⟩ ⟨(pre ++ [f]).map (iY ρ), cs, 0, 0⟩) :
    Sim (mP a pre f cells 0 0 x c) (mP a (pre.map (iY ρ)) (iY ρ f) cs 0 0 x c) := by
  have qx := hI.roots
  simp only [uy, gq.app] at qx
  have KG : ∀ {i : Int}, xJ x.regs i → gG (iY ρ f).regs i = oM ρ (gG f.regs i) := fun hi => Mm h.fr.regs hi
  have PR : ∀ {i : Int}, xJ x.regs i → (gG f.regs i).kind = 2 → (gG f.regs i).n ∈ R := fun hi hk => qx.2 _ (yS h.fr.regs hi).2 hk
  -- a frame on top
  have top : ∀ (g : LX.Frame) (st wh : Int), gq g.regs R → Jb ρ R ⟨pre ++ [g], cells, st, wh⟩ ⟨pre.map (iY ρ) ++ [iY ρ g], cs, st, wh⟩ := by
    intro g st wh hg
    have := hI.mk' (fr := pre ++ [g]) (by simp only [uy, gq.app]; exact ⟨qx.1, hg⟩) st wh
    simpa using this
  have hput : ∀ (i : Nat) (v : Val), (v.kind = 2 → v.n ∈ R) → Jb ρ R ⟨pre ++ [{ zY f x with regs := f.regs.set i v }], cells, 0, 0⟩ ⟨pre.map (iY ρ) ++ [{ zY (iY ρ f) x with regs := (iY ρ f).regs.set i (oM ρ v) }], cs, 0, 0⟩ := by
    intro i v hv
    have := top { zY f x with regs := f.regs.set i v } 0 0 (Gj qx.2 hv)
    have e : ({ zY (iY ρ f) x with regs := (iY ρ f).regs.set i (oM ρ v) } : LX.Frame) = iY ρ { zY f x with regs := f.regs.set i v } := SV i v (zY f x)
    rw [e]; exact this
  have A7 : Jb ρ R ⟨pre ++ [zY f x], cells, 0, 0⟩ ⟨pre.map (iY ρ) ++ [zY (iY ρ f) x], cs, 0, 0⟩ := top (zY f x) 0 0 qx.2
  have PL : Jb ρ R ⟨pre ++ [{ zY f x with at_ := c.b }], cells, 0, 0⟩ ⟨pre.map (iY ρ) ++ [{ zY (iY ρ f) x with at_ := c.b }], cs, 0, 0⟩ := top { zY f x with at_ := c.b } 0 0 qx.2
  unfold mP
  rcases h.good with g | g | g | g | g | g | g | g | g | g
  · obtain ⟨hop, hr, hb⟩ := g
    simp only [hop, Int.reduceEq, if_true, if_false]
    exact tK (by have := hput c.a.toNat ⟨1, c.b⟩ (by simp); simpa [oM] using this)
  · obtain ⟨hop, hr, hb⟩ := g
    simp only [hop, Int.reduceEq, if_true, if_false]
    rw [KG hb]
    exact tK (hput _ _ (PR hb))
  · obtain ⟨hop, hr, hb, hc, n, hn, hn1⟩ := g
    simp only [hop, hn, Int.reduceEq, if_true, if_false, List.headD_cons]
    rw [KG hb, KG hc]
    obtain ⟨e1, e2⟩ := ZF (k := n) hI.inj (PR hb) (PR hc)
    rw [e1]
    cases e : SI n (gG f.regs c.b) (gG f.regs c.c) with
    | none => trivial
    | some v =>
      have hk := e2 v e
      have := hput c.a.toNat v (by omega)
      rw [zB ρ (by omega)] at this
      exact tK this
  · obtain ⟨hop, hr, hb, hc⟩ := g
    rcases hop with hop | hop
    · simp only [hop, Int.reduceEq, if_true, if_false]
      rw [KG hb, uw]
      by_cases hk : (gG f.regs c.b).kind = 2
      · have hin := PR hb hk
        have hcl := hI.cells _ hin
        simp only at hcl
        rw [Gh ρ hk]
        simp only [hk]
        rw [hcl.1, List.length_map]
        by_cases hl : ((cellAt cells (gG f.regs c.b).n).length : Int) ≤ c.c
        · rw [if_pos (.inr hl), if_pos (.inr hl)]; trivial
        · rw [if_neg (by simp; omega), if_neg (by simp; omega)]
          have hri : xJ ((cellAt cells (gG f.regs c.b).n).length : Int) c.c := ⟨hc.1, by omega⟩
          rw [Mm rfl hri]
          exact tK (hput _ _ (hcl.2 _ (yS rfl hri).2))
      · rw [if_pos (.inl hk), if_pos (.inl hk)]; trivial
    · simp only [hop, Int.reduceEq, if_true, if_false]
      rw [KG hr, KG hb, uw]
      by_cases hk : (gG f.regs c.a).kind = 2
      · have hin := PR hr hk
        have hcl := hI.cells _ hin
        simp only at hcl
        rw [Gh ρ hk]
        simp only [hk]
        have hlen : (cellAt cs (ρ (gG f.regs c.a).n)).length = (cellAt cells (gG f.regs c.a).n).length := by rw [hcl.1, List.length_map]
        rw [hlen]
        by_cases hl : ((cellAt cells (gG f.regs c.a).n).length : Int) ≤ c.c
        · rw [if_pos (.inr hl), if_pos (.inr hl)]; trivial
        · rw [if_neg (by simp; omega), if_neg (by simp; omega)]
          have := hI.put (fr := pre ++ [zY f x]) (by simp only [uy, gq.app]; exact qx) hin (i := c.c.toNat) (PR hb) 0 0
          simp only [List.map_append, List.map_cons, List.map_nil] at this
          exact tK this
      · rw [if_pos (.inl hk), if_pos (.inl hk)]; trivial
  · obtain ⟨hop, hr, hb⟩ := g
    simp only [hop, Int.reduceEq, if_true, if_false]
    have sw1 := oL.sw ha h (st := 0) (wh := 0) h.zY
    have sw2 := oL.sw ha h2 (st := 0) (wh := 0) h2.zY
    have hE := A7.SS
    have hlen : (di ⟨pre.map (iY ρ) ++ [zY (iY ρ f) x], cs, 0, 0⟩).length = (di ⟨pre ++ [zY f x], cells, 0, 0⟩).length := by rw [A7.reach.1, List.length_map]
    -- what is left of each
    have side : ∀ (p : List LX.Frame) (g : LX.Frame) (ds : List (List Val)), Dm ⟨p ++ [g], ds, 0, 0⟩ → ∃ p' g' ds', (if ds.length = 24 then cZ ⟨p ++ [g], ds, 0, 0⟩ else (⟨p ++ [g], ds, 0, 0⟩ : LX.State)) = ⟨p' ++ [g'], ds', 0, 0⟩ ∧ Dm ⟨p' ++ [g'], ds', 0, 0⟩ ∧ cZ ⟨p' ++ [g'], ds', 0, 0⟩ = cZ ⟨p ++ [g], ds, 0, 0⟩ ∧ (ds'.length = 24 ↔ (di ⟨p ++ [g], ds, 0, 0⟩).length = 24) := by
      intro p g ds hsw
      have hrl := hsw.reach.1.len
      by_cases Vm : ds.length = 24
      · rw [if_pos Vm]
        refine ⟨_, _, _, AY g, ?_, ?_, ?_⟩
        · rw [← AY]
          refine ⟨⟨by simpa [cZ] using hsw.small.frames, ?_, (Mi hsw).2, fun c hc => ((Dp hsw).2 c hc).1.2⟩, Dp hsw, ?_⟩
          · intro k hk
            simp only [cZ, List.mem_map] at hk
            obtain ⟨k0, hk0, rfl⟩ := hk
            simpa [zS] using hsw.small.regs k0 hk0
          · intro k hk v hv
            simp only [cZ, List.mem_map] at hk
            obtain ⟨k0, hk0, rfl⟩ := hk
            simp only [zS, List.mem_map] at hv
            obtain ⟨v0, hv0, rfl⟩ := hv
            have := Rj (hsw.vals k0 hk0 v0 hv0) (yR hsw.reach.2.1 k0 hk0 v0 hv0)
            simpa [cZ] using this
        · rw [← AY, EZ hsw]
        · simp [cZ]
      · rw [if_neg Vm]
        refine ⟨p, g, ds, rfl, hsw, rfl, ?_⟩
        simp only at hrl
        have := hsw.cells.1
        simp only at this
        omega
    obtain ⟨p1, g1, d1, e1, w1, s1, l1⟩ := side pre (zY f x) cells sw1
    obtain ⟨p2, g2, d2, e2, w2, s2, l2⟩ := side (pre.map (iY ρ)) (zY (iY ρ f) x) cs sw2
    rw [e1, e2, PQ, PQ]
    by_cases Vm : d1.length = 24
    · rw [if_pos Vm, if_pos (by rw [l2, hlen, ← l1]; exact Vm)]; trivial
    · rw [if_neg Vm, if_neg (by rw [l2, hlen, ← l1]; exact Vm)]
      have J := Gi w1 w2 (by rw [s1, s2, hE])
      exact ⟨rfl, rfl, (J.new c.a.toNat c.b.toNat).symm⟩
  · obtain ⟨hop, hr, ⟨p1, hp, hl⟩, hargs⟩ := g
    simp only [hop, Int.reduceEq, if_true, if_false, List.length_map]
    by_cases h10 : pre.length + 1 = 10
    · rw [if_pos h10, if_pos h10]; trivial
    · rw [if_neg h10, if_neg h10]
      have hm : c.args.map (gG (iY ρ f).regs) = (c.args.map (gG f.regs)).map (oM ρ) := by
        rw [List.map_map]
        exact q8 (fun k hk => KG (hargs k hk))
      have hz : ∀ n : Nat, (List.replicate n (⟨0, 0⟩ : Val)).map (oM ρ) = List.replicate n ⟨0, 0⟩ := by intro n; rw [List.map_replicate]; rfl
      have := hI.mk' (fr := pre ++ [zY f x] ++ [⟨c.b, 0, c.args.map (gG f.regs) ++ List.replicate (((idx a c.b).map (·.regs)).getD 0 - c.args.length).toNat ⟨0, 0⟩, c.a⟩]) (by
        simp only [uy, gq.app]
        refine ⟨qx, fun v hv hk => ?_, fun v hv hk => ?_⟩
        · obtain ⟨k, hk1, rfl⟩ := List.mem_map.1 hv
          exact PR (hargs k hk1) hk
        · have := List.eq_of_mem_replicate hv
          subst this; simp at hk) 0 0
      simp only [List.map_append, List.map_cons, List.map_nil] at this
      rw [hm]
      have e : iY ρ ⟨c.b, 0, c.args.map (gG f.regs) ++ List.replicate (((idx a c.b).map (·.regs)).getD 0 - c.args.length).toNat ⟨0, 0⟩, c.a⟩ = ⟨c.b, 0, (c.args.map (gG f.regs)).map (oM ρ) ++ List.replicate (((idx a c.b).map (·.regs)).getD 0 - c.args.length).toNat ⟨0, 0⟩, c.a⟩ := by
        unfold iY
        simp only [List.map_append, hz]
      rw [e] at this
      exact tK this
  · obtain ⟨hop, hr⟩ := g
    rcases hop with hop | hop | hop
    · simp only [hop, Int.reduceEq, if_true, if_false]
      rcases List.eq_nil_or_concat pre with hp | ⟨q, g, hp⟩
      · subst hp
        have := hI.mk' (fr := []) (fun v hv => by cases hv) 1 0
        exact tK this
      · rw [List.concat_eq_append] at hp
        subst hp
        simp only [List.map_append, List.map_cons, List.map_nil, List.getLast?_append, List.getLast?_singleton, Option.some_or, List.dropLast_concat]
        rw [KG hr]
        simp only [uy, gq.app] at qx
        have := hI.mk' (fr := q ++ [{ g with regs := g.regs.set f.kP.toNat (gG f.regs c.a) }]) (by
          simp only [uy, gq.app]
          exact ⟨qx.1.1, Gj qx.1.2 (PR hr)⟩) 0 0
        simp only [List.map_append, List.map_cons, List.map_nil] at this
        rw [← SV] at this
        exact tK this
    · simp only [hop, Int.reduceEq, if_true, if_false]
      rw [KG hr, uw]
      by_cases hk : (gG f.regs c.a).kind = 1
      · rw [if_pos hk, if_pos hk, zB ρ (by omega)]
        exact tK A7
      · rw [if_neg hk, if_neg hk]; trivial
    · simp only [hop, Int.reduceEq, if_true, if_false]
      rw [KG hr, uw]
      by_cases hk : (gG f.regs c.a).kind = 1
      · rw [if_pos hk, if_pos hk, zB ρ (by omega)]
        exact tK (top (zY f x) 3 _ qx.2)
      · rw [if_neg hk, if_neg hk]; trivial
  · simp only [g, Int.reduceEq, if_true, if_false]
    exact tK A7
  · obtain ⟨hop, hb⟩ := g
    simp only [hop, Int.reduceEq, if_true, if_false]
    exact tK PL
  · obtain ⟨hop, hr, hb⟩ := g
    simp only [hop, Int.reduceEq, if_true, if_false]
    rw [KG hr, uw]
    by_cases hk : (gG f.regs c.a).kind = 2
    · rw [if_neg (by simp [hk]), if_neg (by simp [hk])]
      exact tK A7
    · rw [zB ρ hk]
      by_cases hz : (gG f.regs c.a).n = 0
      · rw [if_pos ⟨hk, hz⟩, if_pos ⟨hk, hz⟩]; exact tK PL
      · rw [if_neg (fun e => hz e.2), if_neg (fun e => hz e.2)]; exact tK A7
end
end Go.Proofs.YtfclkapelkhlpaaGreatDoor
namespace Go.Proofs.YtfclkapelkhlpaaGreatDoor
open Go Go.Proofs Go.LX
theorem Rl {s t : LX.State} (h : cZ s = cZ t) (k : Int) : cZ { s with status := k } = cZ { t with status := k } := congrArg (fun u : LX.State => { u with status := k }) h
theorem UR {a : List bQ} (ha : mo a) {s t : LX.State} (hs : sG a s) (ht : sG a t) (h0 : s.status = 0) (hE : cZ s = cZ t) : Sim (yT a s) (yT a t) ∧ Cn a s = Cn a t := by
  have I := Gi (hs.sw ha) (ht.sw ha) hE
  generalize (fun x => (di t)[(di s).idxOf x]?.getD 0) = ρ at I
  have ht0 : t.status = 0 := by rw [I.status]; exact h0
  obtain ⟨pre, f, x, c, e1, T1, st1, op1⟩ := A8 ha hs h0
  obtain ⟨pre', f', x', c', e2, T2, st2, op2⟩ := A8 ha ht ht0
  have hfr := I.frames
  have q1 : s.frames = pre ++ [f] := by rw [e1]
  have q2 : t.frames = pre' ++ [f'] := by rw [e2]
  rw [q1, q2] at hfr
  simp only [List.map_append, List.map_cons, List.map_nil] at hfr
  obtain ⟨hp, hf⟩ := List.append_inj' hfr rfl
  simp only [List.cons.injEq, and_true] at hf
  subst hp hf
  have hx : x' = x := by
    have h1 := T1.fr.proc
    have h2 : idx a f.proc = some x' := T2.fr.proc
    rw [h1] at h2; exact (fI h2).symm
  subst hx
  have hc : c' = c := by
    have h1 := T1.ins
    have h2 : idx x'.code f.at_ = some c' := T2.ins
    rw [h1] at h2; exact (fI h2).symm
  subst hc
  refine ⟨?_, by rw [op1, op2]⟩
  rw [st1, st2]
  refine X8 ha T1 T2 (R := di s) ?_
  exact I.mk' (fr := pre ++ [f]) (by have := I.roots; rw [q1] at this; exact this) 0 0
theorem SX {a : List bQ} (ha : mo a) : ∀ (m : Nat) (said : List Int) (n : Nat) (s t : LX.State), sG a s → sG a t → cZ s = cZ t →
    (tJ a m said n s).2 = (tJ a m said n t).2 ∧ cZ (tJ a m said n s).1 = cZ (tJ a m said n t).1
  | 0, said, n, s, t, _, _, h => ⟨rfl, h⟩
  | m + 1, said, n, s, t, hs, ht, h => by
    have hst : s.status = t.status := by show (cZ s).status = (cZ t).status; rw [h]
    unfold tJ
    by_cases h0 : s.status = 0
    · rw [if_neg (show ¬ s.status ≠ 0 by omega), if_neg (show ¬ t.status ≠ 0 by omega)]
      obtain ⟨h1, h2⟩ := UR ha hs ht h0 h
      rw [← h2]
      by_cases UN : said.length = 40 ∧ Cn a s = 9
      · rw [if_pos UN, if_pos UN]; exact ⟨rfl, h⟩
      · rw [if_neg UN, if_neg UN]
        cases e1 : yT a s with
        | none =>
          rw [e1] at h1
          cases e2 : yT a t with
          | none => exact ⟨rfl, Rl h 2⟩
          | some q => rw [e2] at h1; exact h1.elim
        | some q =>
          rw [e1] at h1
          cases e2 : yT a t with
          | none => rw [e2] at h1; exact h1.elim
          | some q2 =>
            rw [e2] at h1
            obtain ⟨u, o, p⟩ := q
            obtain ⟨u2, o2, p2⟩ := q2
            obtain ⟨rfl, rfl, h3⟩ := h1
            simp only
            cases p with
            | true => exact ⟨rfl, h3⟩
            | false =>
              simp only [Bool.false_eq_true, if_false]
              exact SX ha m _ _ u u2 (zA ha hs h0 e1).1 (zA ha ht (by omega) e2).1 h3
    · rw [if_pos h0, if_pos (by omega)]; exact ⟨rfl, h⟩
end Go.Proofs.YtfclkapelkhlpaaGreatDoor
namespace Go.Proofs.YtfclkapelkhlpaaGreatDoor
open Go Go.Proofs Go.LX
theorem at_eq (k : Int) {n : Int} (hn : 0 < n) (hb : n ≤ 1000000000) : ∃ r, vv k n = some r ∧ 0 ≤ r ∧ r < n := by
  unfold vv
  rw [tX hn]
  have h1 : Int.tmod k n < n := Int.tmod_lt_of_pos k hn
  have h2 : -n < Int.tmod k n := by
    have := Int.tmod_lt_of_pos (-k) hn
    rw [Int.neg_tmod] at this
    omega
  by_cases h : Int.tmod k n < 0
  · rw [dT h, cond_true, gI (by omega) (by omega)]
    exact ⟨_, rfl, by omega, by omega⟩
  · rw [dF h, cond_false]
    exact ⟨_, rfl, by omega, h1⟩
end Go.Proofs.YtfclkapelkhlpaaGreatDoor
namespace Go.Proofs.YtfclkapelkhlpaaGreatDoor
open Go Go.Proofs Go.LX
noncomputable section
theorem Gl : fD Tryz.prog 80 0 0 := ⟨_, _, 0, Tryz.underlying80, rfl, rfl, by kernel_rfl⟩
theorem NW : fD Tryz.prog 80 1 1 := ⟨_, _, 0, Tryz.underlying80, rfl, rfl, by kernel_rfl⟩
theorem Rm : gy Tryz.prog 13 := ⟨_, Tryz.func13, by kernel_rfl, rfl⟩
theorem X9 : gy Tryz.prog 14 := ⟨_, Tryz.func14, by kernel_rfl, rfl⟩
theorem Rn : gy Tryz.prog 15 := ⟨_, Tryz.func15, by kernel_rfl, rfl⟩
theorem Ya : gy Tryz.prog 38 := ⟨_, Tryz.func38, by kernel_rfl, rfl⟩
theorem Dq : gy Tryz.prog 41 := ⟨_, Tryz.func41, by kernel_rfl, rfl⟩
theorem KH : gy Tryz.prog 42 := ⟨_, Tryz.func42, by kernel_rfl, rfl⟩
theorem NY : gy Tryz.prog 43 := ⟨_, Tryz.func43, by kernel_rfl, rfl⟩
theorem Yb : Struct Tryz.prog 80 [(.slice none 0 0), (.bool (false))] [(0, 1), (1, 1)] := ⟨by kernel_rfl, _, Tryz.underlying80, by kernel_rfl⟩
def rf (dS : Val) (x8 : List Int) (nO : List Int → Option (List Int)) : Option (List Int) :=
  gJ (Room 8 x8 [dS.kind, dS.n]) (nO (x8 ++ [dS.kind, dS.n]))
def rq (x8 : List Int) : Option (List Int) :=
  some x8
def uz (sx : List Int) (a : List Val) : Option (List Int) :=
  each rf rq a sx
theorem En (w0 : World) (M : BS) (hM : ∀ b, M b → b < w0.heap.size) (sv : Value) (sx : List Int) (hC : Chunk.holds w0 M (Chunk.own' (.own dA 3 sv sx : Chunk)) (.own dA 3 sv sx : Chunk)) (hap : ∀ b, Chunk.own' (.own dA 3 sv sx : Chunk) b → ¬ M b) (va : Value) (a : List Val) (ha : eX bJ w0 (fun b => M b ∨ (.own dA 3 sv sx : Chunk).own' b) va a) (r : List Int) (hs : uz sx a = some r) :
    Calls Tryz.prog 38 #[sv, va] w0 (fun e w' => aD (Chunk.own' (.own dA 3 sv sx : Chunk)) w0 w' ∧ ∃ zM, e = .returned (zM) ∧ Chunk.holds w' M (Chunk.own' (.own dA 3 zM r : Chunk)) (.own dA 3 zM r : Chunk) ∧ (∀ b, Chunk.own' (.own dA 3 zM r : Chunk) b → b < w0.heap.size → Chunk.own' (.own dA 3 sv sx : Chunk) b)) := by
 refine aL (args := [sv, va]) Tryz.func38 rfl Tryz.ntmps38 (bC rfl) ?_
 have h := SH.Ci hM hC hap
 replace h := h.yw 2 ha ze
 generalize yB : (.own dA 3 sv sx : Chunk).own' = K0 at h
 have vE := ha.bW
 refine nG (aa (ae (v := (.slice none 0 0)) rfl) (nK (aa (ah (v := va) rfl) (aa (bT bH rfl (h.mM 2 rfl)) (aa (ah (v := (I6 0)) rfl) (nN (aP (fT (σ := Nat × Int × Value × List Int) (inl ([0, 6] ++ rg 9 12)) (fun ⟨k9, i10, v7, x8⟩ => [(0, v7), (9, (I6 i10))]) (fun ⟨k9, i10, v7, x8⟩ w => SH w0 M K0 w (hset [(1, .own dA 3 v7 x8), (2, .rd bJ va a)]) ∧ i10 = (k9 : Int) ∧ each rf rq (a.drop k9) x8 = some r) (fun ⟨k9, i10, v7, x8⟩ => a.length - k9) ⟨0, 0, sv, sx⟩ ⟨rfl, rfl, trivial⟩ ?_ ?_))))))))
 exact ⟨h.cn _, rfl, hs⟩
 rintro ⟨k9, i10, v7, x8⟩ w dz ⟨h, hik, hs⟩
 refine nG ?_
 refine aa (dL rfl rfl) (nN ?_)
 refine aO (iw rfl (fun e14 => ?_) (fun e14 => ?_))
 refine aI (ak ?_)
 obtain ⟨dS, Nl, Nn⟩ := gK (hik ▸ e14)
 rw [Nn, dO] at hs
 generalize FO : each rf rq (a.drop (k9 + 1)) = nO at hs
 have Np := gN ((h.mM 2 rfl)).bW hik e14
 refine aO (aP (nG ?_))
 obtain ⟨b17, o18, WM, h, TF, i16⟩ := h.Fw 2 3 rfl bH rfl (jb hik) (gM hik Nl)
 obtain rfl := TF
 refine aa (i16 _ _ _ _ _ _ _ _ _ rfl rfl) (aa (jm (k := 0) (vs := [(I6 dS.kind), (I6 dS.n)]) h 3 rfl bS rfl rfl rfl (bC rfl)) (bO h 4 bS fun w KT h => dn (vs := [(I6 dS.kind), (I6 dS.n)]) h 4 [(I6 dS.kind), (I6 dS.n)] rfl bS rfl rfl rfl rfl rfl (ai rfl (ai rfl aT)) fun w h => nN (aB (aa (ah (v := v7) rfl) (aa (ag sP rfl) (aa (aA h 4 rfl aU rfl rfl) (aa (ag iq rfl) (aa (aA h 4 rfl aU rfl rfl) (sV (R := dA) (vs := [(I6 dS.kind), (I6 dS.n)]) (xs := [dS.kind, dS.n]) h 5 iR rfl rfl rfl ⟨rfl, ⟨rfl, trivial⟩⟩ rfl fun w u22 h => ?_)))))))))
 obtain ⟨a23, hs⟩ := bu hs
 refine lg (R := dA) (m := [dS.kind, dS.n]) h 1 rfl (h.dG 5 rfl) iR rfl rfl rfl a23.1 a23.2 fun w u24 h => aa (ae (v := u24) rfl) (ay (ax (ak (aB (aa (dm rfl rfl Np) (aa (ah (v := (I6 ((i10 + 1)))) rfl) (ay (au ?_))))))))
 subst FO
 exact jQ ⟨k9 + 1, i10 + 1, u24, (x8 ++ [dS.kind, dS.n])⟩ ⟨h.cn _, by omega, hs⟩ (by have := qE e14; dsimp only; omega)
 rw [gL (hik ▸ e14), gT] at hs
 refine nE (aa (ah (v := v7) rfl) (aa (ae (v := v7) rfl) (nR (bR (v := v7) Tryz.results38 rfl ?_))))
 obtain rfl := fI hs
 subst yB
 obtain ⟨o1, o2, o3⟩ := h.o8 1 (C := (.own dA 3 v7 x8 : Chunk)) rfl trivial
 exact ⟨o2, v7, rfl, o1, o3⟩
def yg (y6 : LX.State) (i60 : Int) (za : List Int) (nx63 : List Int → Option (List Int × Int)) : Option (List Int × Int) :=
  (idx y6.cells i60).bind fun x66 => gJ (Room 8 za [(x66.length : Int)]) ((uz (za ++ [(x66.length : Int)]) x66).bind fun y80 => nx63 y80)
def yh (za : List Int) : Option (List Int × Int) :=
  bif decide ((1200 : Int) < (za.length : Int)) then some ([], 2) else some (za, 0)
def vB (y6 : LX.State) (i25 : Int) (rW : List Int) (nx28 : List Int → Option (List Int × Int)) : Option (List Int × Int) :=
  (idx y6.frames i25).bind fun x31 => gJ (Room 8 rW [x31.proc, x31.at_, x31.kP, (x31.regs.length : Int)]) ((uz (rW ++ [x31.proc, x31.at_, x31.kP, (x31.regs.length : Int)]) x31.regs).bind fun D5 => nx28 D5)
def vC (y6 : LX.State) (rW : List Int) : Option (List Int × Int) :=
  gJ (Room 8 rW [(y6.cells.length : Int)]) (upto (yg y6) yh 0 ((y6.cells.length : Int)).toNat (rW ++ [(y6.cells.length : Int)]))
def yn (N : Nat) (a : List bQ) (b : LX.State) : Option (List Int × Int) :=
  (yF a b).bind fun y2 => bif decide ((y2 : Int) ≠ 0) then some ([], y2) else (sD N b).bind fun y6 => upto (vB y6) (vC y6) 0 ((y6.frames.length : Int)).toNat [y6.status, y6.aQ, (y6.frames.length : Int)]
theorem Dr (N : Nat) (w0 : World) (M : BS) (hM : ∀ b, M b → b < w0.heap.size) (va : Value) (a : List bQ) (ha : fP jR w0 BE M va a) (b : LX.State) (vb0 vb1 : Value) (hb0 : fP eu w0 BE M vb0 b.frames) (hb1 : fP (oV bJ) w0 BE M vb1 b.cells) (r : List Int × Int) (hs : yn N a b = some r) :
    Calls Tryz.prog 13 #[va, (.agg #[vb0, vb1, (I6 b.status), (I6 b.aQ)])] w0 (fun e w' => Grow w0 w' ∧ ∃ u0, e = .returned (.tuple #[u0, .int .i64 r.2]) ∧ dY dA 3 w' M u0 r.1 ∧ (∀ b, ob u0 b → w0.heap.size ≤ b)) := by
 refine aL (args := [va, (.agg #[vb0, vb1, (I6 b.status), (I6 b.aQ)])]) Tryz.func13 rfl Tryz.ntmps13 (bC rfl) ?_
 have h := SH.init hM
 replace h := h.fG 1 ha bE
 replace h := h.fG 2 hb0 (cO bE)
 replace h := h.fG 3 hb1 (cO (cO bE))
 have vE := ha.bW
 refine nG (oP (cs := [vb0, vb1, (I6 b.status), (I6 b.aQ)]) h 4 rfl rfl fun w b1 h => aa (ae (v := (.slice none 0 0)) rfl) (aa (ae (v := (I6 0)) rfl) (nK (aa (ah (v := va) rfl) (aa (dh (vs := [vb0, vb1, (I6 b.status), (I6 b.aQ)]) h 4 rfl bV rfl rfl rfl) ?_)))))
 obtain ⟨y2, e3, hs⟩ := aJ hs
 refine aR Qm rfl rfl (EG _ _ h.lt va a (h.iM 1 rfl) b vb0 vb1 (h.iM 2 rfl) (h.iM 3 rfl) _ e3) ?_
 rintro _ w ⟨k4, rfl⟩
 refine ⟨_, rfl, ?_⟩
 replace h := h.grow k4
 refine aa (ae (v := (I6 y2)) rfl) (nJ (aa (ah (v := (I6 y2)) rfl) (aa (iP rfl rfl) (nN (aH hs rfl (fun c5 hs => ?_) (fun c5 hs => ?_))))))
 refine nG (aa (ah (v := (I6 y2)) rfl) (aa (ae (v := (.slice none 0 0)) rfl) (aa (ae (v := (I6 y2)) rfl) (nR (az (D9 (v1 := (.slice none 0 0)) (v2 := (I6 y2)) Tryz.results13 rfl rfl ?_))))))
 obtain rfl := fI hs
 exact ⟨h.grown, _, rfl, dY.nil, kz⟩
 refine nS (aa (dh (vs := [vb0, vb1, (I6 b.status), (I6 b.aQ)]) h 4 rfl bV rfl rfl rfl) ?_)
 obtain ⟨y6, e7, hs⟩ := aJ hs
 refine aR GI rfl rfl (vS N _ _ h.lt b vb0 vb1 (h.iM 2 rfl) (h.iM 3 rfl) _ e7) ?_
 rintro _ w ⟨k14, u8, u10, us9, EI, rfl, h12, h13⟩
 refine ⟨_, rfl, ?_⟩
 replace h := h.JA 5 (C := (cU u8 u10 y6.frames us9 y6.cells EI)) k14 ⟨⟨⟨trivial, trivial⟩, trivial⟩, trivial⟩ h12 h13
 replace h := h.bN 5 8 (by decide) rfl rfl
 replace h := h.bN 5 7 (by decide) rfl rfl
 replace h := h.bN 5 6 (by decide) rfl rfl
 refine dn (vs := [u8, u10, (I6 y6.status), (I6 y6.aQ)]) h 4 [u8, u10, (I6 y6.status), (I6 y6.aQ)] rfl bV rfl rfl rfl rfl rfl (ai (h.dC 5 rfl).one (ai (h.dC 7 rfl).one (ai rfl (ai rfl aT)))) fun w h => nJ (aa (ag nV rfl) (aa (aA h 4 rfl aU rfl rfl) (aa (ag wC rfl) (aa (aA h 4 rfl aU rfl rfl) (aa (ag ed rfl) (aa (aA h 4 rfl iU rfl rfl) (aa (oo (N := bU) df rfl (h.dG 5 rfl) (h.gX 6 rfl)) (sV (R := dA) (vs := [(I6 y6.status), (I6 y6.aQ), (I6 ((y6.frames.length : Int)))]) (xs := [y6.status, y6.aQ, (y6.frames.length : Int)]) h 9 iR rfl rfl rfl ⟨rfl, ⟨rfl, ⟨rfl, trivial⟩⟩⟩ rfl fun w Fh h => aa (ae (v := Fh) rfl) (nK (aa (ag ed rfl) (aa (aA h 4 rfl iU rfl rfl) (aa (oo (N := bU) df rfl (h.dG 5 rfl) (h.gX 6 rfl)) (aa (ah (v := (I6 0)) rfl) (ay ?_))))))))))))))
 refine ak (aP ?_)
 have hli25 := JB (h.dG 5 rfl) (h.gX 6 rfl)
 refine fT (σ := Nat × Int × Value × List Int) (inl ([7, 9] ++ rg 31 20)) (fun ⟨k24, i25, v22, rW⟩ => [(7, v22), (31, (I6 i25))]) (fun ⟨k24, i25, v22, rW⟩ w => SH w0 M BE w (hset [(4, .blk b1 [u8, u10, (I6 y6.status), (I6 y6.aQ)]), (5, .own bU.raw 49 u8 (List.zip y6.frames us9)), (6, .ib (dB bJ 51 hn us9 (List.map bU.sub y6.frames))), (7, .own (eT Val).raw 47 u10 (List.zip y6.cells EI)), (8, .ib (dB bJ 51 hn EI (List.map (eT Val).sub y6.cells))), (9, .own dA 3 v22 rW)]) ∧ i25 = (k24 : Int) ∧ upto (vB y6) (vC y6) i25 (((y6.frames.length : Int)).toNat - k24) rW = some r) (fun ⟨k24, i25, v22, rW⟩ => ((y6.frames.length : Int)).toNat - k24) ⟨0, 0, Fh, [y6.status, y6.aQ, (y6.frames.length : Int)]⟩ ⟨rfl, rfl, trivial⟩ ?_ ?_
 exact ⟨h.cn _, rfl, hs⟩
 rintro ⟨k24, i25, v22, rW⟩ w dz ⟨h, hik, hs⟩
 refine nG ?_
 refine aa (dL rfl rfl) (nN ?_)
 refine aO (iw rfl (fun e29 => ?_) (fun e29 => ?_))
 refine aI (ak ?_)
 rw [sJ (by have := qE e29; omega)] at hs
 generalize hnx28 : upto (vB y6) (vC y6) (i25 + 1) (((y6.frames.length : Int)).toNat - (k24 + 1)) = nx28 at hs
 have e30r : jI (i25 + 1) := (by have := qE e29; have := hli25; exact jI.mk (by omega) (by omega))
 refine aO (aP (nG ?_))
 obtain ⟨x31, e32, hs⟩ := aJ hs
 obtain ⟨u36, e37, h⟩ := h.qA 6 10 x31.regs rfl rfl (by decide) (aG e32).2 rfl
 obtain ⟨b34, q35, i33⟩ := h.xL 5 rfl df rfl (aG e32).1 (fw (aG e32).2 e37)
 refine aa (i33 _ _ _ _ _ _ _ _ _ rfl rfl) ?_
 obtain ⟨cs38, Zc, r40⟩ := h.zV 5 rfl q35 (fw (aG e32).2 e37)
 obtain ⟨rfl, -⟩ := r40
 refine aa (oZ (k := 0) (vs := [(I6 x31.proc), (I6 x31.at_), u36, (I6 x31.kP)]) Zc iA rfl rfl rfl (bC rfl)) (bO h 11 iA fun w b41 h => dn (vs := [(I6 x31.proc), (I6 x31.at_), u36, (I6 x31.kP)]) h 11 [(I6 x31.proc), (I6 x31.at_), u36, (I6 x31.kP)] rfl iA rfl rfl rfl rfl rfl (ai rfl (ai rfl (ai (h.dC 10 rfl).one (ai rfl aT)))) fun w h => nN (kL (L := (ob v22)) mixed h fun w h => bA 0 (aD.refl _ _) rfl aj (by kernel_rfl) (by kernel_rfl) (by kernel_rfl) (fun w hk => ah (v := v22) rfl) (bA 1 (aD.refl _ _) rfl aj (by kernel_rfl) (by kernel_rfl) (by kernel_rfl) (fun w hk => ag wD rfl) (bA 2 (aD.refl _ _) rfl aj (by kernel_rfl) (by kernel_rfl) (by kernel_rfl) (fun w hk => have h := h.oQ 9 rfl hk; aA h 11 rfl aU rfl rfl) (bA 3 (aD.refl _ _) rfl aj (by kernel_rfl) (by kernel_rfl) (by kernel_rfl) (fun w hk => ag sO rfl) (bA 4 (aD.refl _ _) rfl aj (by kernel_rfl) (by kernel_rfl) (by kernel_rfl) (fun w hk => have h := h.oQ 9 rfl hk; aA h 11 rfl aU rfl rfl) (bA 5 (aD.refl _ _) rfl aj (by kernel_rfl) (by kernel_rfl) (by kernel_rfl) (fun w hk => ag zt rfl) (bA 6 (aD.refl _ _) rfl aj (by kernel_rfl) (by kernel_rfl) (by kernel_rfl) (fun w hk => have h := h.oQ 9 rfl hk; aA h 11 rfl aU rfl rfl) (bA 7 (aD.refl _ _) rfl aj (by kernel_rfl) (by kernel_rfl) (by kernel_rfl) (fun w hk => ag kT rfl) (bA 8 (aD.refl _ _) rfl aj (by kernel_rfl) (by kernel_rfl) (by kernel_rfl) (fun w hk => have h := h.oQ 9 rfl hk; aA h 11 rfl lC rfl rfl) (bA 9 (aD.refl _ _) rfl aj (by kernel_rfl) (by kernel_rfl) (by kernel_rfl) (fun w hk => bT bH rfl (h.dG 10 rfl)) (bA 12 (aD.refl _ _) rfl aj (by kernel_rfl) (by kernel_rfl) (by kernel_rfl) (fun w hk => ag kT rfl) (bA 13 (aD.refl _ _) rfl aj (by kernel_rfl) (by kernel_rfl) (by kernel_rfl) (fun w hk => have h := h.oQ 9 rfl hk; aA h 11 rfl lC rfl rfl) ?_)))))))))))))
 obtain ⟨ZG, ws46e⟩ : ∃ x, x = w := ⟨_, rfl⟩
 have E5 : aD (ob v22) ZG w := ws46e ▸ aD.refl (ob v22) w
 refine rU ws46e.symm (bg 10 (by kernel_rfl) rfl aj (wK (R := dA) (vs := [(I6 x31.proc), (I6 x31.at_), (I6 x31.kP), (I6 ((x31.regs.length : Int)))]) (xs := [x31.proc, x31.at_, x31.kP, (x31.regs.length : Int)]) h 132 iR rfl rfl rfl ⟨rfl, ⟨rfl, ⟨rfl, ⟨rfl, trivial⟩⟩⟩⟩ rfl fun w UT h Ro Rp => ?_))
 have uq45x10_1q : ∀ b, ob UT b → ZG.heap.size ≤ b := fun b hb => Nat.le_trans E5.size (Rp b hb)
 replace E5 := E5.grow Ro
 refine ay (aN E5 (bg 11 (by kernel_rfl) rfl aj ?_))
 obtain ⟨Mo, hs⟩ := bu hs
 have uq45x11_2z := E5.size
 refine kS (R := dA) (m := [x31.proc, x31.at_, x31.kP, (x31.regs.length : Int)]) h 9 rfl (h.dG 132 rfl) iR rfl rfl rfl Mo.1 Mo.2 fun w D6 h Rq Rs => ?_
 have KI : ∀ b, ob D6 b → b < ZG.heap.size → ob v22 b := fun b hb hl => Rs b hb (Nat.lt_of_lt_of_le hl (E5).size)
 replace E5 := E5.same Rq
 refine ay (aN E5 (bg 14 (by kernel_rfl) rfl aj ?_))
 obtain ⟨Rt, lq45x14_1b, lq45x14_1c⟩ := h.kC 9 (C := (.own dA 3 D6 (rW ++ [x31.proc, x31.at_, x31.kP, (x31.regs.length : Int)]) : Chunk)) rfl trivial
 obtain ⟨D5, UU, hs⟩ := aJ hs
 have zq45x14_4 := E5.size
 refine aR Ya rfl rfl (En _ BE (fun _ h => h.elim) D6 (rW ++ [x31.proc, x31.at_, x31.kP, (x31.regs.length : Int)]) (Chunk.flatten (fun _ _ _ _ _ h => h) Rt) Z9 u36 x31.regs (h.VW 9 10 (by decide) rfl rfl) _ UU) ?_
 rintro _ w ⟨Mq, D7, rfl, UW, Mr⟩
 refine ⟨_, rfl, ?_⟩
 replace h := h.back 9 (C := (.own dA 3 D6 (rW ++ [x31.proc, x31.at_, x31.kP, (x31.regs.length : Int)]) : Chunk)) (C' := (.own dA 3 D7 D5 : Chunk)) rfl trivial (Chunk.flatten (fun _ _ _ _ _ h => h) UW) Mq Mr
 have Ru := Mq
 have Rv := Mr
 have uq45x14_8q : ∀ b, ob D7 b → b < ZG.heap.size → ob v22 b := fun b hb hl => KI b (Rv b hb (Nat.lt_of_lt_of_le hl (E5).size)) hl
 replace E5 := aD.step E5 Ru (fun x hx hl => KI x hx hl)
 refine ay (aN E5 (cK 15 E5 rfl (by kernel_rfl) (fun w hk => ae (v := D7) rfl) (eY (by kernel_rfl) (ax (ak (aB (aa (dm rfl rfl e30r) (aa (ah (v := (I6 ((i25 + 1)))) rfl) (ay ?_)))))))))
 replace h := h.iQ 6 10 rfl rfl (by decide) (aG e32).2 e37 rfl
 refine au ?_
 subst hnx28
 exact jQ ⟨k24 + 1, i25 + 1, D7, D5⟩ ⟨h.cn _, by omega, hs⟩ (by have := qE e29; dsimp only; omega)
 rw [sK (by have := of_decide_eq_false e29; omega)] at hs
 refine nE (aa (ah (v := v22) rfl) (aa (ag il rfl) (aa (aA h 4 rfl kr rfl rfl) (aa (oo (N := (eT Val)) eB rfl (h.dG 7 rfl) (h.gX 8 rfl)) (sV (R := dA) (vs := [(I6 ((y6.cells.length : Int)))]) (xs := [(y6.cells.length : Int)]) h 216 iR rfl rfl rfl ⟨rfl, trivial⟩ rfl fun w u48 h => ?_)))))
 obtain ⟨a49, hs⟩ := bu hs
 refine lg (R := dA) (m := [(y6.cells.length : Int)]) h 9 rfl (h.dG 216 rfl) iR rfl rfl rfl a49.1 a49.2 fun w u50 h => aa (ae (v := u50) rfl) (nK (aa (ag il rfl) (aa (aA h 4 rfl kr rfl rfl) (aa (oo (N := (eT Val)) eB rfl (h.dG 7 rfl) (h.gX 8 rfl)) (aa (ah (v := (I6 0)) rfl) (nN (aP ?_)))))))
 have hli60 := JB (h.dG 7 rfl) (h.gX 8 rfl)
 refine fT (σ := Nat × Int × Value × List Int) (inl ([7, 11] ++ rg 60 12)) (fun ⟨k59, i60, v57, za⟩ => [(7, v57), (60, (I6 i60))]) (fun ⟨k59, i60, v57, za⟩ w => SH w0 M BE w (hset [(7, .own (eT Val).raw 47 u10 (List.zip y6.cells EI)), (8, .ib (dB bJ 51 hn EI (List.map (eT Val).sub y6.cells))), (9, .own dA 3 v57 za)]) ∧ i60 = (k59 : Int) ∧ upto (yg y6) yh i60 (((y6.cells.length : Int)).toNat - k59) za = some r) (fun ⟨k59, i60, v57, za⟩ => ((y6.cells.length : Int)).toNat - k59) ⟨0, 0, u50, (rW ++ [(y6.cells.length : Int)])⟩ ⟨rfl, rfl, trivial⟩ ?_ ?_
 exact ⟨h.cn _, rfl, hs⟩
 rintro ⟨k59, i60, v57, za⟩ w dz ⟨h, hik, hs⟩
 refine nG ?_
 refine aa (dL rfl rfl) (nN ?_)
 refine aO (iw rfl (fun e64 => ?_) (fun e64 => ?_))
 refine aI (ak ?_)
 rw [sJ (by have := qE e64; omega)] at hs
 generalize hnx63 : upto (yg y6) yh (i60 + 1) (((y6.cells.length : Int)).toNat - (k59 + 1)) = nx63 at hs
 have e65r : jI (i60 + 1) := (by have := qE e64; have := hli60; exact jI.mk (by omega) (by omega))
 refine aO (aP (nG ?_))
 obtain ⟨x66, Xq, hs⟩ := aJ hs
 obtain ⟨u71, Zh, h⟩ := h.qA 8 217 x66 rfl rfl (by decide) (aG Xq).2 rfl
 obtain ⟨b69, q70, i68⟩ := h.xL 7 rfl eB rfl (aG Xq).1 (fw (aG Xq).2 Zh)
 refine aa (i68 _ _ _ _ _ _ _ _ _ rfl rfl) ?_
 obtain ⟨cs73, Zi, r75⟩ := h.zV 7 rfl q70 (fw (aG Xq).2 Zh)
 obtain ⟨rfl, -⟩ := r75
 refine aa (qa (k := 0) Zi lC rfl rfl) (aa (ae (v := u71) rfl) (nN (aB (aa (ah (v := v57) rfl) (aa (ah (v := u71) rfl) (aa (bT bH rfl (h.dG 217 rfl)) (sV (R := dA) (vs := [(I6 ((x66.length : Int)))]) (xs := [(x66.length : Int)]) h 218 iR rfl rfl rfl ⟨rfl, trivial⟩ rfl fun w u76 h => ?_)))))))
 obtain ⟨a77, hs⟩ := bu hs
 refine lg (R := dA) (m := [(x66.length : Int)]) h 9 rfl (h.dG 218 rfl) iR rfl rfl rfl a77.1 a77.2 fun w KV h => aa (ah (v := u71) rfl) ?_
 obtain ⟨l79a, l79b, l79c⟩ := h.kC 9 (C := (.own dA 3 KV (za ++ [(x66.length : Int)]) : Chunk)) rfl trivial
 obtain ⟨y80, e81, hs⟩ := aJ hs
 refine aR Ya rfl rfl (En _ BE (fun _ h => h.elim) KV (za ++ [(x66.length : Int)]) (Chunk.flatten (fun _ _ _ _ _ h => h) l79a) Z9 u71 x66 (h.VW 9 217 (by decide) rfl rfl) _ e81) ?_
 rintro _ w ⟨k82, u85, rfl, h83, h84⟩
 refine ⟨_, rfl, ?_⟩
 replace h := h.back 9 (C := (.own dA 3 KV (za ++ [(x66.length : Int)]) : Chunk)) (C' := (.own dA 3 u85 y80 : Chunk)) rfl trivial (Chunk.flatten (fun _ _ _ _ _ h => h) h83) k82 h84
 refine aa (ae (v := u85) rfl) (ay (ax (ak (aB (aa (dm rfl rfl e65r) (aa (ah (v := (I6 ((i60 + 1)))) rfl) (ay ?_)))))))
 replace h := h.iQ 8 217 rfl rfl (by decide) (aG Xq).2 Zh rfl
 refine au ?_
 subst hnx63
 exact jQ ⟨k59 + 1, i60 + 1, u85, y80⟩ ⟨h.cn _, by omega, hs⟩ (by have := qE e64; dsimp only; omega)
 rw [sK (by have := of_decide_eq_false e64; omega)] at hs
 refine iT (bK (bK (dU (ak (aO (nG (aa (ah (v := v57) rfl) (aa (bT bZ rfl (h.dG 9 rfl)) (aa (j5 rfl rfl) (nN (aH hs rfl (fun c86 hs => ?_) (fun c86 hs => ?_))))))))))))
 refine nG (aa (ae (v := (.slice none 0 0)) rfl) (aa (ae (v := (I6 2)) rfl) (nR (az (D9 (v1 := (.slice none 0 0)) (v2 := (I6 2)) Tryz.results13 rfl rfl ?_)))))
 obtain rfl := fI hs
 exact ⟨h.grown, _, rfl, dY.nil, kz⟩
 refine nS (aa (ah (v := v57) rfl) (aa (ae (v := v57) rfl) (aa (ae (v := (I6 0)) rfl) (nR (D9 (v1 := v57) (v2 := (I6 0)) Tryz.results13 rfl rfl ?_)))))
 obtain rfl := fI hs
 exact ⟨h.grown, _, rfl, (h.mQ 9 rfl).1, (h.mQ 9 rfl).2⟩
def gu (sx : jo) : Option (Int × jo) :=
  bif decide (((sx.l.length : Int) : Int) = 0) then some (0, (⟨sx.l, true⟩ : jo)) else (idx sx.l 0).bind fun x2 => (sub? sx.l 1 (sx.l.length : Int)).bind fun x9 => some (x2, (⟨x9, sx.bad⟩ : jo))
theorem iL (w0 : World) (M : BS) (hM : ∀ b, M b → b < w0.heap.size) (sb : Nat) (sx : jo) (gV : Value) (hC : Chunk.holds w0 M (Chunk.own' (.blk sb [gV, (.bool (sx.bad))] : Chunk)) (.blk sb [gV, (.bool (sx.bad))] : Chunk)) (hap : ∀ b, Chunk.own' (.blk sb [gV, (.bool (sx.bad))] : Chunk) b → ¬ M b) (Yc : eX dA w0 (fun b => M b ∨ Chunk.own' (.blk sb [gV, (.bool (sx.bad))] : Chunk) b) gV sx.l) (r : Int × jo) (hs : gu sx = some r) :
    Calls Tryz.prog 41 #[(.pointer (some ⟨sb, 0, none⟩))] w0 (fun e w' => aD (Chunk.own' (.blk sb [gV, (.bool (sx.bad))] : Chunk)) w0 w' ∧ ∃ zM, e = .returned (.int .i64 r.1) ∧ Chunk.holds w' M (Chunk.own' (.blk sb [zM, .bool r.2.bad] : Chunk)) (.blk sb [zM, .bool r.2.bad] : Chunk) ∧ (∀ b, Chunk.own' (.blk sb [zM, .bool r.2.bad] : Chunk) b → b < w0.heap.size → Chunk.own' (.blk sb [gV, (.bool (sx.bad))] : Chunk) b) ∧ eX dA w' (fun b => M b ∨ Chunk.own' (.blk sb [zM, .bool r.2.bad] : Chunk) b) zM r.2.l) := by
 refine aL (args := [(.pointer (some ⟨sb, 0, none⟩))]) Tryz.func41 rfl Tryz.ntmps41 (bC rfl) ?_
 have h := SH.Ci hM hC hap
 replace h := h.yw 2 Yc ze
 generalize yB : (.blk sb [gV, (.bool (sx.bad))] : Chunk).own' = K0 at h
 refine nG (aa (ae (v := (I6 0)) rfl) (nK (aa (ah (v := (.pointer (some ⟨sb, 0, none⟩))) rfl) (aa (bz rfl) (aa (ag Gl rfl) (aa (aA h 1 rfl rQ rfl rfl) (aa (bT bZ rfl (h.mM 2 rfl)) (aa (bD rfl rfl) (nN (aH hs rfl (fun c1 hs => ?_) (fun c1 hs => ?_)))))))))))
 refine nG (aa (ah (v := (.pointer (some ⟨sb, 0, none⟩))) rfl) (aa (bz rfl) (aa (ag NW rfl) (eH h 1 [gV, (.bool (true))] rfl xz rfl rfl rfl rfl rfl fun w h => nJ (aa (ae (v := (I6 0)) rfl) (nR (az (bR (v := (I6 0)) Tryz.results41 rfl ?_))))))))
 obtain rfl := fI hs
 subst yB
 obtain ⟨o1, o2, o3⟩ := h.o8 1 (C := (.blk sb [gV, (.bool (true))] : Chunk)) rfl trivial
 exact ⟨o2, gV, rfl, o1, o3, h.BC 1 2 rfl rfl⟩
 refine nS (aa (ah (v := (.pointer (some ⟨sb, 0, none⟩))) rfl) (aa (bz rfl) (aa (ag Gl rfl) (aa (aA h 1 rfl rQ rfl rfl) ?_))))
 obtain ⟨x2, e3, hs⟩ := aJ hs
 obtain ⟨b5, o6, cs7, h, r8, i4⟩ := h.Fw 2 3 rfl bZ rfl (aG e3).1 (aG e3).2
 obtain rfl := r8
 refine aa (i4 _ _ _ _ _ _ _ _ _ rfl rfl) (aa (eU (k := 0) h 3 rfl aU rfl rfl) (aa (ae (v := (I6 x2)) rfl) (nJ (aa (ah (v := (.pointer (some ⟨sb, 0, none⟩))) rfl) (aa (ah (v := (.pointer (some ⟨sb, 0, none⟩))) rfl) (aa (bz rfl) (aa (ag Gl rfl) (aa (aA h 1 rfl rQ rfl rfl) ?_))))))))
 obtain ⟨x9, e10, hs⟩ := aJ hs
 obtain ⟨e13, e13a, e13b, e13c⟩ := Oe e10
 obtain ⟨u11, h, i12⟩ := h.slR 2 4 rfl bZ rfl e13a e13b e13c
 rw [← e13] at h
 refine aa (i12 _ _ _ _ _ _ _ _ _ _ rfl (.inr (congrArg some rfl)) (.inl ⟨rfl, rfl⟩)) (aa (bz rfl) (aa (ag Gl rfl) (eH h 1 [u11, (.bool (sx.bad))] rfl rQ rfl rfl rfl rfl (h.fM 4 rfl).one fun w h => nJ (aa (ah (v := (I6 x2)) rfl) (aa (ae (v := (I6 x2)) rfl) (nR (bR (v := (I6 x2)) Tryz.results41 rfl ?_)))))))
 obtain rfl := fI hs
 subst yB
 obtain ⟨o1, o2, o3⟩ := h.o8 1 (C := (.blk sb [u11, (.bool (sx.bad))] : Chunk)) rfl trivial
 exact ⟨o2, u11, rfl, o1, o3, h.BC 1 4 rfl rfl⟩
def j3 (sx : jo) (a : Int) : Option (Int × jo) :=
  (gu sx).bind fun y2 => bif (decide ((y2.1 : Int) < 0) || decide ((a : Int) < y2.1)) then some (0, (⟨y2.2.l, true⟩ : jo)) else some (y2.1, y2.2)
theorem mq (w0 : World) (M : BS) (hM : ∀ b, M b → b < w0.heap.size) (sb : Nat) (sx : jo) (gV : Value) (hC : Chunk.holds w0 M (Chunk.own' (.blk sb [gV, (.bool (sx.bad))] : Chunk)) (.blk sb [gV, (.bool (sx.bad))] : Chunk)) (hap : ∀ b, Chunk.own' (.blk sb [gV, (.bool (sx.bad))] : Chunk) b → ¬ M b) (Yc : eX dA w0 (fun b => M b ∨ Chunk.own' (.blk sb [gV, (.bool (sx.bad))] : Chunk) b) gV sx.l) (a : Int) (r : Int × jo) (hs : j3 sx a = some r) :
    Calls Tryz.prog 42 #[(.pointer (some ⟨sb, 0, none⟩)), (I6 a)] w0 (fun e w' => aD (Chunk.own' (.blk sb [gV, (.bool (sx.bad))] : Chunk)) w0 w' ∧ ∃ zM, e = .returned (.int .i64 r.1) ∧ Chunk.holds w' M (Chunk.own' (.blk sb [zM, .bool r.2.bad] : Chunk)) (.blk sb [zM, .bool r.2.bad] : Chunk) ∧ (∀ b, Chunk.own' (.blk sb [zM, .bool r.2.bad] : Chunk) b → b < w0.heap.size → Chunk.own' (.blk sb [gV, (.bool (sx.bad))] : Chunk) b) ∧ eX dA w' (fun b => M b ∨ Chunk.own' (.blk sb [zM, .bool r.2.bad] : Chunk) b) zM r.2.l) := by
 refine aL (args := [(.pointer (some ⟨sb, 0, none⟩)), (I6 a)]) Tryz.func42 rfl Tryz.ntmps42 (bC rfl) ?_
 have h := SH.Ci hM hC hap
 replace h := h.yw 2 Yc ze
 generalize yB : (.blk sb [gV, (.bool (sx.bad))] : Chunk).own' = K0 at h
 refine nG (aa (ae (v := (I6 0)) rfl) (nJ (aa (ah (v := (.pointer (some ⟨sb, 0, none⟩))) rfl) ?_)))
 obtain ⟨l1a, l1b, l1c⟩ := h.kC 1 (C := (.blk sb [gV, (.bool (sx.bad))] : Chunk)) rfl trivial
 obtain ⟨y2, e3, hs⟩ := aJ hs
 refine aR Dq rfl rfl (iL _ _ l1c sb sx gV l1a l1b (h.Er 1 2 rfl rfl) _ e3) ?_
 rintro _ w ⟨k6, u4, rfl, h7, h8, g5⟩
 refine ⟨_, rfl, ?_⟩
 replace h := h.back 1 (C := (.blk sb [gV, (.bool (sx.bad))] : Chunk)) (C' := (.blk sb [u4, (.bool (y2.2.bad))] : Chunk)) rfl trivial h7 k6 h8
 replace h := h.bM 3 (kg g5)
 refine aa (ae (v := (I6 y2.1)) rfl) (nK (aa (ah (v := (I6 y2.1)) rfl) (aa (dL rfl rfl) (aa (ah (v := (.bool (decide ((y2.1 : Int) < 0)))) rfl) (aC rfl rfl (fun q => ah (v := (I6 y2.1)) rfl) (aC rfl rfl (fun q => ah (v := (I6 a)) rfl) (aC rfl rfl (fun q => j5 (dE q) (dE q)) (aa (iy rfl rfl nQ) (nN (aH hs rfl (fun c9 hs => ?_) (fun c9 hs => ?_)))))))))))
 refine nG (aa (ah (v := (.pointer (some ⟨sb, 0, none⟩))) rfl) (aa (bz rfl) (aa (ag NW rfl) (eH h 1 [u4, (.bool (true))] rfl xz rfl rfl rfl rfl rfl fun w h => nJ (aa (ae (v := (I6 0)) rfl) (nR (az (bR (v := (I6 0)) Tryz.results42 rfl ?_))))))))
 obtain rfl := fI hs
 subst yB
 obtain ⟨o1, o2, o3⟩ := h.o8 1 (C := (.blk sb [u4, (.bool (true))] : Chunk)) rfl trivial
 exact ⟨o2, u4, rfl, o1, o3, h.BC 1 3 rfl rfl⟩
 refine nS (aa (ah (v := (I6 y2.1)) rfl) (aa (ae (v := (I6 y2.1)) rfl) (nR (bR (v := (I6 y2.1)) Tryz.results42 rfl ?_))))
 obtain rfl := fI hs
 subst yB
 obtain ⟨o1, o2, o3⟩ := h.o8 1 (C := (.blk sb [u4, (.bool (y2.2.bad))] : Chunk)) rfl trivial
 exact ⟨o2, u4, rfl, o1, o3, h.BC 1 3 rfl rfl⟩
def gZ (a : Int) (s : List Val × Int × List Int × Bool) (nx29 : List Val × Int × List Int × Bool → Option (List Val × jo)) : Option (List Val × jo) :=
  match s with | (x20, zL, y23, y24) => bif decide ((zL : Int) < a) then (gu (⟨y23, y24⟩ : jo)).bind fun y34 => (gu y34.2).bind fun tq => gJ (Room 16 x20 [(⟨y34.1, tq.1⟩ : Val)]) (gJ (jI (zL + 1)) (nx29 ((x20 ++ [(⟨y34.1, tq.1⟩ : Val)]), (zL + 1), tq.2.l, tq.2.bad))) else some (x20, (⟨y23, y24⟩ : jo))
def mr (N : Nat) (sx : jo) (a : Int) : Option (List Val × jo) :=
  again (gZ a) N ([], 0, sx.l, sx.bad)
theorem nI (N : Nat) (w0 : World) (M : BS) (hM : ∀ b, M b → b < w0.heap.size) (sb : Nat) (sx : jo) (gV : Value) (hC : Chunk.holds w0 M (Chunk.own' (.blk sb [gV, (.bool (sx.bad))] : Chunk)) (.blk sb [gV, (.bool (sx.bad))] : Chunk)) (hap : ∀ b, Chunk.own' (.blk sb [gV, (.bool (sx.bad))] : Chunk) b → ¬ M b) (Yc : eX dA w0 (fun b => M b ∨ Chunk.own' (.blk sb [gV, (.bool (sx.bad))] : Chunk) b) gV sx.l) (a : Int) (r : List Val × jo) (hs : mr N sx a = some r) :
    Calls Tryz.prog 43 #[(.pointer (some ⟨sb, 0, none⟩)), (I6 a)] w0 (fun e w' => aD (Chunk.own' (.blk sb [gV, (.bool (sx.bad))] : Chunk)) w0 w' ∧ ∃ u0, ∃ zM, e = .returned (u0) ∧ Chunk.holds w' M (Chunk.own' (.blk sb [zM, .bool r.2.bad] : Chunk)) (.blk sb [zM, .bool r.2.bad] : Chunk) ∧ (∀ b, Chunk.own' (.blk sb [zM, .bool r.2.bad] : Chunk) b → b < w0.heap.size → Chunk.own' (.blk sb [gV, (.bool (sx.bad))] : Chunk) b) ∧ eX bJ w' (fun b => M b ∨ Chunk.own' (.blk sb [zM, .bool r.2.bad] : Chunk) b) u0 r.1 ∧ eX dA w' (fun b => M b ∨ Chunk.own' (.blk sb [zM, .bool r.2.bad] : Chunk) b) zM r.2.l) := by
 refine aL (args := [(.pointer (some ⟨sb, 0, none⟩)), (I6 a)]) Tryz.func43 rfl Tryz.ntmps43 (bC rfl) ?_
 have h := SH.Ci hM hC hap
 replace h := h.yw 2 Yc ze
 generalize yB : (.blk sb [gV, (.bool (sx.bad))] : Chunk).own' = K0 at h
 refine nG (aa (ae (v := (.slice none 0 0)) rfl) (nJ (aa (ae (v := (.slice none 0 0)) rfl) (nK (aa (ah (v := (I6 a)) rfl) (aa (ah (v := (I6 0)) rfl) (nN (aP ?_))))))))
 replace h := h.zb (R := bJ) (E := 51) 9
 replace h := h.zh 2 10 rfl
 refine fT (σ := Nat × Value × List Val × Int × Value × List Int × Bool) (inl ([5, 6] ++ rg 8 12)) (fun ⟨m28, v19, x20, zL, v22, y23, y24⟩ => [(5, v19), (8, (I6 zL))]) (fun ⟨m28, v19, x20, zL, v22, y23, y24⟩ w => SH w0 M K0 w (hset [(1, .blk sb [v22, (.bool (y24))]), (9, .own bJ 51 v19 x20), (10, .rd dA v22 y23)]) ∧ again (gZ a) m28 (x20, zL, y23, y24) = some r) (fun ⟨m28, v19, x20, zL, v22, y23, y24⟩ => m28) ⟨N, (.slice none 0 0), [], 0, gV, sx.l, sx.bad⟩ ⟨rfl, rfl, trivial⟩ ?_ ?_
 exact ⟨h.cn _, hs⟩
 rintro ⟨m28, v19, x20, zL, v22, y23, y24⟩ w dz ⟨h, hs⟩
 obtain ⟨m281, m28e, m28h⟩ := og hs
 subst m28e
 replace hs := m28h
 generalize hnx29 : again (gZ a) m281 = nx29 at hs
 refine nG (aa (dL rfl rfl) (nN (aO (aH hs rfl (fun c32 hs => ?_) (fun c32 hs => ?_)))))
 refine aI (ak (aO (aP (nG (aa (ah (v := (.pointer (some ⟨sb, 0, none⟩))) rfl) ?_)))))
 obtain ⟨l33a, l33b, l33c⟩ := h.kC 1 (C := (.blk sb [v22, (.bool (y24))] : Chunk)) rfl trivial
 obtain ⟨y34, e35, hs⟩ := aJ hs
 refine aR Dq rfl rfl (iL _ _ l33c sb (⟨y23, y24⟩ : jo) v22 l33a l33b (h.Er 1 10 rfl rfl) _ e35) ?_
 rintro _ w ⟨k38, u36, rfl, h39, UN, g37⟩
 refine ⟨_, rfl, ?_⟩
 replace h := h.back 1 (C := (.blk sb [v22, (.bool (y24))] : Chunk)) (C' := (.blk sb [u36, (.bool (y34.2.bad))] : Chunk)) rfl trivial h39 k38 UN
 replace h := h.bM 11 (kg g37)
 refine aa (ae (v := (I6 y34.1)) rfl) (nN (aB (aa (ah (v := v19) rfl) (aa (ah (v := (I6 y34.1)) rfl) (aa (ah (v := (.pointer (some ⟨sb, 0, none⟩))) rfl) ?_)))))
 obtain ⟨l41a, l41b, l41c⟩ := h.kC 1 (C := (.blk sb [u36, (.bool (y34.2.bad))] : Chunk)) rfl trivial
 obtain ⟨tq, e43, hs⟩ := aJ hs
 refine aR Dq rfl rfl (iL _ _ l41c sb y34.2 u36 l41a l41b (h.Er 1 11 rfl rfl) _ e43) ?_
 rintro _ w ⟨k46, u44, rfl, h47, h48, g45⟩
 refine ⟨_, rfl, ?_⟩
 replace h := h.back 1 (C := (.blk sb [u36, (.bool (y34.2.bad))] : Chunk)) (C' := (.blk sb [u44, (.bool (tq.2.bad))] : Chunk)) rfl trivial h47 k46 h48
 replace h := h.bM 12 (kg g45)
 refine aa (dH (pv := [(0, (I6 y34.1)), (1, (I6 tq.1))]) (out := [(I6 y34.1), (I6 tq.1)]) uL rfl ⟨0, 1, [(I6 y34.1)], rfl, rfl, rfl, bC rfl, ⟨1, 1, [(I6 tq.1)], rfl, rfl, rfl, bC rfl, rfl⟩⟩) (sV (R := bJ) (vs := [(.agg #[(I6 y34.1), (I6 tq.1)])]) (xs := [(⟨y34.1, tq.1⟩ : Val)]) h 13 rZ rfl rfl rfl ⟨rfl, trivial⟩ rfl fun w u49 h => ?_)
 obtain ⟨a50, hs⟩ := bu hs
 refine lg (R := bJ) (m := [(⟨y34.1, tq.1⟩ : Val)]) h 9 rfl (h.dG 13 rfl) rZ rfl rfl rfl a50.1 a50.2 fun w u51 h => aa (ae (v := u51) rfl) (ay (ax (ak (aB ?_))))
 obtain ⟨a52, hs⟩ := bu hs
 refine aa (dm rfl rfl a52) (aa (ah (v := (I6 ((zL + 1)))) rfl) (ay (au ?_)))
 replace h := h.zh 12 10 rfl
 subst hnx29
 exact jQ ⟨m281, u51, (x20 ++ [(⟨y34.1, tq.1⟩ : Val)]), (zL + 1), u44, tq.2.l, tq.2.bad⟩ ⟨h.cn _, hs⟩
 refine nE (aa (ah (v := v19) rfl) (aa (ae (v := v19) rfl) (nR (bR (v := v19) Tryz.results43 rfl ?_))))
 replace h := h.freeze 9 rfl
 obtain rfl := fI hs
 subst yB
 obtain ⟨o1, o2, o3⟩ := h.o8 1 (C := (.blk sb [v22, (.bool (y24))] : Chunk)) rfl trivial
 exact ⟨o2, v19, v22, rfl, o1, o3, h.BC 1 9 rfl rfl, h.BC 1 10 rfl rfl⟩
def yU (Gm : Int) (PS : (Int × List Int × Bool × List (List Val)) → Option (LX.State × Int)) (Rw : List Int) (y150 : Bool) (y152 : List (List Val)) : Option (LX.State × Int) :=
  gJ (jI (Gm + 1)) (PS ((Gm + 1), Rw, y150, y152))
def mD (N : Nat) (qd : Int × jo) (a : List bQ) (vG : List LX.Frame) (y6 : Int × jo) (sS : Int × jo) (s : Int × List Int × Bool × List (List Val)) (PS : Int × List Int × Bool × List (List Val) → Option (LX.State × Int)) : Option (LX.State × Int) :=
  match s with | (Gm, Le, E8, Ce) => bif decide ((Gm : Int) < qd.1) then (j3 (⟨Le, E8⟩ : jo) 4).bind fun jg => (mr N jg.2 jg.1).bind fun eD => gJ (Room 24 Ce [eD.1]) (yU Gm PS eD.2.l eD.2.bad (Ce ++ [eD.1])) else bif (E8 || decide ((0 : Int) < (Le.length : Int))) then some ((⟨[], [], 0, 0⟩ : LX.State), 8) else (yF a (⟨vG, Ce, y6.1, sS.1⟩ : LX.State)).bind fun y168 => bif decide ((y168 : Int) ≠ 0) then some ((⟨[], [], 0, 0⟩ : LX.State), y168) else (sD N (⟨vG, Ce, y6.1, sS.1⟩ : LX.State)).bind fun A9 => (zx A9 (⟨vG, Ce, y6.1, sS.1⟩ : LX.State)).bind fun Ms => bif (!Ms) then some ((⟨[], [], 0, 0⟩ : LX.State), 4) else some ((⟨vG, Ce, y6.1, sS.1⟩ : LX.State), 0)
def kK (N : Nat) (y22 : Int × jo) (a : List bQ) (y6 : Int × jo) (sS : Int × jo) (s : Int × List Int × Bool × List LX.Frame) (nx57 : Int × List Int × Bool × List LX.Frame → Option (LX.State × Int)) : Option (LX.State × Int) :=
  match s with | (Yd, El, tY, vG) => bif decide ((Yd : Int) < y22.1) then (gu (⟨El, tY⟩ : jo)).bind fun PT => (gu PT.2).bind fun Cx => (gu Cx.2).bind fun Rx => (j3 Rx.2 40).bind fun y87 => (mr N y87.2 y87.1).bind fun y95 => gJ (Room 48 vG [(⟨PT.1, Cx.1, y95.1, Rx.1⟩ : LX.Frame)]) (gJ (jI (Yd + 1)) (nx57 ((Yd + 1), y95.2.l, y95.2.bad, (vG ++ [(⟨PT.1, Cx.1, y95.1, Rx.1⟩ : LX.Frame)])))) else (j3 (⟨El, tY⟩ : jo) 24).bind fun qd => again (mD N qd a vG y6 sS) N (0, qd.2.l, qd.2.bad, [])
def uA (N : Nat) (a : List bQ) (b : List Int) : Option (LX.State × Int) :=
  bif decide ((1200 : Int) < (b.length : Int)) then some ((⟨[], [], 0, 0⟩ : LX.State), 2) else (gu (⟨b, false⟩ : jo)).bind fun y6 => (gu y6.2).bind fun sS => (j3 sS.2 10).bind fun y22 => again (kK N y22 a y6 sS) N (0, y22.2.l, y22.2.bad, [])
theorem zT (N : Nat) (w0 : World) (M : BS) (hM : ∀ b, M b → b < w0.heap.size) (va : Value) (a : List bQ) (ha : fP jR w0 BE M va a) (vb : Value) (b : List Int) (hb : eX dA w0 M vb b) (r : LX.State × Int) (hs : uA N a b = some r) :
    Calls Tryz.prog 15 #[va, vb] w0 (fun e w' => Grow w0 w' ∧ ∃ yD, ∃ Cs, e = .returned (.tuple #[.agg #[yD, Cs, .int .i64 r.1.status, .int .i64 r.1.aQ], .int .i64 r.2]) ∧ eX eu w' M yD r.1.frames ∧ eX (oV bJ) w' M Cs r.1.cells) := by
 refine aL (args := [va, vb]) Tryz.func15 rfl Tryz.ntmps15 (bC rfl) ?_
 have h := SH.init hM
 replace h := h.fG 1 ha bE
 replace h := h.Vr 2 hb (cO bE)
 have vE := ha.bW
 have KZ := hb.bW
 refine nG (bO h 3 bV fun w b1 h => aa (ae (v := (I6 0)) rfl) (nK (aa (ah (v := vb) rfl) (aa (bT bZ rfl (h.mM 2 rfl)) (aa (j5 rfl rfl) (nN (aH hs rfl (fun c2 hs => ?_) (fun c2 hs => ?_))))))))
 refine nG (aa (dH (pv := []) (out := [(.slice none 0 0), (.slice none 0 0), (I6 0), (I6 0)]) r9 rfl rfl) (dn (vs := [(.slice none 0 0), (.slice none 0 0), (I6 0), (I6 0)]) h 3 [(.slice none 0 0), (.slice none 0 0), (I6 0), (I6 0)] rfl bV rfl rfl rfl rfl rfl (ai rfl (ai rfl (ai rfl (ai rfl aT)))) fun w h => aa (ae (v := (I6 2)) rfl) (nR (az (jV (vs := [(.slice none 0 0), (.slice none 0 0), (I6 0), (I6 0)]) (v2 := (I6 2)) Tryz.results15 rfl rfl h 3 rfl bV rfl ?_)))))
 obtain rfl := fI hs
 exact ⟨h.grown, _, _, rfl, fP.nil, fP.nil⟩
 refine nS (aa (ah (v := vb) rfl) (aa (dH (pv := [(0, vb)]) (out := [vb, (.bool (false))]) Yb rfl ⟨0, 1, [vb], rfl, (iW (h.fM 2 rfl).one), rfl, bC rfl, rfl⟩) (oP (cs := [vb, (.bool (false))]) h 4 rfl rfl fun w b3 h => aa (ae (v := (.pointer (some ⟨b3, 0, none⟩))) rfl) (nJ (aa (dH (pv := []) (out := [(.slice none 0 0), (.slice none 0 0), (I6 0), (I6 0)]) r9 rfl rfl) (bO h 5 bV fun w b4 h => dn (vs := [(.slice none 0 0), (.slice none 0 0), (I6 0), (I6 0)]) h 5 [(.slice none 0 0), (.slice none 0 0), (I6 0), (I6 0)] rfl bV rfl rfl rfl rfl rfl (ai rfl (ai rfl (ai rfl (ai rfl aT)))) fun w h => nJ (aa (ah (v := (.pointer (some ⟨b3, 0, none⟩))) rfl) ?_)))))))
 obtain ⟨l5a, l5b, l5c⟩ := h.kC 4 (C := (.blk b3 [vb, (.bool (false))] : Chunk)) rfl trivial
 obtain ⟨y6, e7, hs⟩ := aJ hs
 refine aR Dq rfl rfl (iL _ _ l5c b3 (⟨b, false⟩ : jo) vb l5a l5b (h.Er 4 2 rfl rfl) _ e7) ?_
 rintro _ w ⟨k10, u8, rfl, h11, h12, g9⟩
 refine ⟨_, rfl, ?_⟩
 replace h := h.back 4 (C := (.blk b3 [vb, (.bool (false))] : Chunk)) (C' := (.blk b3 [u8, (.bool (y6.2.bad))] : Chunk)) rfl trivial h11 k10 h12
 replace h := h.bM 6 (kg g9)
 refine aa (ag nV rfl) (eH h 5 [(.slice none 0 0), (.slice none 0 0), (I6 y6.1), (I6 0)] rfl aU rfl rfl rfl rfl rfl fun w h => nJ (aa (ah (v := (.pointer (some ⟨b3, 0, none⟩))) rfl) ?_))
 obtain ⟨l13a, l13b, l13c⟩ := h.kC 4 (C := (.blk b3 [u8, (.bool (y6.2.bad))] : Chunk)) rfl trivial
 obtain ⟨sS, e15, hs⟩ := aJ hs
 refine aR Dq rfl rfl (iL _ _ l13c b3 y6.2 u8 l13a l13b (h.Er 4 6 rfl rfl) _ e15) ?_
 rintro _ w ⟨k18, u16, rfl, h19, h20, g17⟩
 refine ⟨_, rfl, ?_⟩
 replace h := h.back 4 (C := (.blk b3 [u8, (.bool (y6.2.bad))] : Chunk)) (C' := (.blk b3 [u16, (.bool (sS.2.bad))] : Chunk)) rfl trivial h19 k18 h20
 replace h := h.bM 7 (kg g17)
 refine aa (ag wC rfl) (eH h 5 [(.slice none 0 0), (.slice none 0 0), (I6 y6.1), (I6 sS.1)] rfl aU rfl rfl rfl rfl rfl fun w h => nK (aa (ah (v := (.pointer (some ⟨b3, 0, none⟩))) rfl) ?_))
 obtain ⟨l21a, l21b, l21c⟩ := h.kC 4 (C := (.blk b3 [u16, (.bool (sS.2.bad))] : Chunk)) rfl trivial
 obtain ⟨y22, e23, hs⟩ := aJ hs
 refine aR KH rfl rfl (mq _ _ l21c b3 sS.2 u16 l21a l21b (h.Er 4 7 rfl rfl) 10 _ e23) ?_
 rintro _ w ⟨k26, u24, rfl, h27, h28, g25⟩
 refine ⟨_, rfl, ?_⟩
 replace h := h.back 4 (C := (.blk b3 [u16, (.bool (sS.2.bad))] : Chunk)) (C' := (.blk b3 [u24, (.bool (y22.2.bad))] : Chunk)) rfl trivial h27 k26 h28
 replace h := h.bM 8 (kg g25)
 refine aa (ah (v := (I6 0)) rfl) (nN (aP ?_))
 replace h := h.zh 8 15 rfl
 replace h := h.zb (R := eu) (E := 49) 16
 refine fT (σ := Nat × Int × Value × List Int × Bool × Value × List LX.Frame) (inl ([8] ++ rg 26 24)) (fun ⟨m56, Yd, v48, El, tY, v51, vG⟩ => [(26, (I6 Yd))]) (fun ⟨m56, Yd, v48, El, tY, v51, vG⟩ w => SH w0 M BE w (hset [(1, .sr jR va a), (3, .blk b1 [(.slice none 0 0), (.slice none 0 0), (I6 0), (I6 0)]), (4, .blk b3 [v48, (.bool (tY))]), (5, .blk b4 [v51, (.slice none 0 0), (I6 y6.1), (I6 sS.1)]), (15, .rd dA v48 El), (16, .own eu 49 v51 vG)]) ∧ again (kK N y22 a y6 sS) m56 (Yd, El, tY, vG) = some r) (fun ⟨m56, Yd, v48, El, tY, v51, vG⟩ => m56) ⟨N, 0, u24, y22.2.l, y22.2.bad, (.slice none 0 0), []⟩ ⟨rfl, trivial⟩ ?_ ?_
 exact ⟨h.cn _, hs⟩
 rintro ⟨m56, Yd, v48, El, tY, v51, vG⟩ w dz ⟨h, hs⟩
 obtain ⟨m561, m56e, m56h⟩ := og hs
 subst m56e
 replace hs := m56h
 generalize hnx57 : again (kK N y22 a y6 sS) m561 = nx57 at hs
 refine nG (aa (dL rfl rfl) (nN (aO (aH hs rfl (fun JN hs => ?_) (fun JN hs => ?_)))))
 refine aI (ak (aO (aP (nG (aa (dH (pv := []) (out := [(I6 0), (I6 0), (.slice none 0 0), (I6 0)]) FM rfl rfl) (bO h 17 iA fun w b61 h => dn (vs := [(I6 0), (I6 0), (.slice none 0 0), (I6 0)]) h 17 [(I6 0), (I6 0), (.slice none 0 0), (I6 0)] rfl iA rfl rfl rfl rfl rfl (ai rfl (ai rfl (ai rfl (ai rfl aT)))) fun w h => nJ (aa (ah (v := (.pointer (some ⟨b3, 0, none⟩))) rfl) ?_)))))))
 obtain ⟨l62a, l62b, l62c⟩ := h.kC 4 (C := (.blk b3 [v48, (.bool (tY))] : Chunk)) rfl trivial
 obtain ⟨PT, e64, hs⟩ := aJ hs
 refine aR Dq rfl rfl (iL _ _ l62c b3 (⟨El, tY⟩ : jo) v48 l62a l62b (h.Er 4 15 rfl rfl) _ e64) ?_
 rintro _ w ⟨k67, u65, rfl, h68, h69, g66⟩
 refine ⟨_, rfl, ?_⟩
 replace h := h.back 4 (C := (.blk b3 [v48, (.bool (tY))] : Chunk)) (C' := (.blk b3 [u65, (.bool (PT.2.bad))] : Chunk)) rfl trivial h68 k67 h69
 replace h := h.bM 18 (kg g66)
 refine aa (ag wD rfl) (eH h 17 [(I6 PT.1), (I6 0), (.slice none 0 0), (I6 0)] rfl aU rfl rfl rfl rfl rfl fun w h => nJ (aa (ah (v := (.pointer (some ⟨b3, 0, none⟩))) rfl) ?_))
 obtain ⟨l70a, l70b, l70c⟩ := h.kC 4 (C := (.blk b3 [u65, (.bool (PT.2.bad))] : Chunk)) rfl trivial
 obtain ⟨Cx, Zh, hs⟩ := aJ hs
 refine aR Dq rfl rfl (iL _ _ l70c b3 PT.2 u65 l70a l70b (h.Er 4 18 rfl rfl) _ Zh) ?_
 rintro _ w ⟨k75, u73, rfl, h76, h77, g74⟩
 refine ⟨_, rfl, ?_⟩
 replace h := h.back 4 (C := (.blk b3 [u65, (.bool (PT.2.bad))] : Chunk)) (C' := (.blk b3 [u73, (.bool (Cx.2.bad))] : Chunk)) rfl trivial h76 k75 h77
 replace h := h.bM 19 (kg g74)
 refine aa (ag sO rfl) (eH h 17 [(I6 PT.1), (I6 Cx.1), (.slice none 0 0), (I6 0)] rfl aU rfl rfl rfl rfl rfl fun w h => nJ (aa (ah (v := (.pointer (some ⟨b3, 0, none⟩))) rfl) ?_))
 obtain ⟨l78a, l78b, l78c⟩ := h.kC 4 (C := (.blk b3 [u73, (.bool (Cx.2.bad))] : Chunk)) rfl trivial
 obtain ⟨Rx, Zj, hs⟩ := aJ hs
 refine aR Dq rfl rfl (iL _ _ l78c b3 Cx.2 u73 l78a l78b (h.Er 4 19 rfl rfl) _ Zj) ?_
 rintro _ w ⟨k83, u81, rfl, h84, h85, g82⟩
 refine ⟨_, rfl, ?_⟩
 replace h := h.back 4 (C := (.blk b3 [u73, (.bool (Cx.2.bad))] : Chunk)) (C' := (.blk b3 [u81, (.bool (Rx.2.bad))] : Chunk)) rfl trivial h84 k83 h85
 replace h := h.bM 20 (kg g82)
 refine aa (ag zt rfl) (eH h 17 [(I6 PT.1), (I6 Cx.1), (.slice none 0 0), (I6 Rx.1)] rfl aU rfl rfl rfl rfl rfl fun w h => nJ (aa (ah (v := (.pointer (some ⟨b3, 0, none⟩))) rfl) (aa (ah (v := (.pointer (some ⟨b3, 0, none⟩))) rfl) ?_)))
 obtain ⟨l86a, l86b, l86c⟩ := h.kC 4 (C := (.blk b3 [u81, (.bool (Rx.2.bad))] : Chunk)) rfl trivial
 obtain ⟨y87, Zk, hs⟩ := aJ hs
 refine aR KH rfl rfl (mq _ _ l86c b3 Rx.2 u81 l86a l86b (h.Er 4 20 rfl rfl) 40 _ Zk) ?_
 rintro _ w ⟨k91, u89, rfl, h92, h93, g90⟩
 refine ⟨_, rfl, ?_⟩
 replace h := h.back 4 (C := (.blk b3 [u81, (.bool (Rx.2.bad))] : Chunk)) (C' := (.blk b3 [u89, (.bool (y87.2.bad))] : Chunk)) rfl trivial h92 k91 h93
 replace h := h.bM 21 (kg g90)
 obtain ⟨l94a, l94b, l94c⟩ := h.kC 4 (C := (.blk b3 [u89, (.bool (y87.2.bad))] : Chunk)) rfl trivial
 obtain ⟨y95, e96, hs⟩ := aJ hs
 refine aR NY rfl rfl (nI N _ _ l94c b3 y87.2 u89 l94a l94b (h.Er 4 21 rfl rfl) y87.1 _ e96) ?_
 rintro _ w ⟨k101, TK, Zt, rfl, h102, h103, g98, g100⟩
 refine ⟨_, rfl, ?_⟩
 replace h := h.back 4 (C := (.blk b3 [u89, (.bool (y87.2.bad))] : Chunk)) (C' := (.blk b3 [Zt, (.bool (y95.2.bad))] : Chunk)) rfl trivial h102 k101 h103
 replace h := h.bM 22 (kg g98)
 replace h := h.bM 23 (kg g100).up
 refine aa (ag kT rfl) (eH h 17 [(I6 PT.1), (I6 Cx.1), TK, (I6 Rx.1)] rfl lC rfl rfl rfl rfl (h.fM 22 rfl).one fun w h => nN (aB (aa (ag ed rfl) (aa (aA h 5 rfl iU rfl rfl) (aa (dh (vs := [(I6 PT.1), (I6 Cx.1), TK, (I6 Rx.1)]) h 17 rfl iA rfl rfl rfl) (sV (R := eu) (vs := [(.agg #[(I6 PT.1), (I6 Cx.1), TK, (I6 Rx.1)])]) (xs := [(⟨PT.1, Cx.1, y95.1, Rx.1⟩ : LX.Frame)]) h 24 oq rfl rfl rfl ⟨⟨_, rfl, (h.fM 22 rfl)⟩, trivial⟩ rfl fun w u104 h => ?_))))))
 obtain ⟨a105, hs⟩ := bu hs
 refine lg (R := eu) (m := [(⟨PT.1, Cx.1, y95.1, Rx.1⟩ : LX.Frame)]) h 16 rfl (h.dG 24 rfl) oq rfl rfl rfl a105.1 a105.2 fun w OV h => aa (ag ed rfl) (eH h 5 [OV, (.slice none 0 0), (I6 y6.1), (I6 sS.1)] rfl iU rfl rfl rfl rfl (h.dC 16 rfl).one fun w h => ay (ax (ak (aB ?_))))
 obtain ⟨a107, hs⟩ := bu hs
 refine aa (dm rfl rfl a107) (aa (ah (v := (I6 ((Yd + 1)))) rfl) (ay (au ?_)))
 replace h := h.zh 23 15 rfl
 subst hnx57
 exact jQ ⟨m561, (Yd + 1), Zt, y95.2.l, y95.2.bad, OV, (vG ++ [(⟨PT.1, Cx.1, y95.1, Rx.1⟩ : LX.Frame)])⟩ ⟨h.cn _, hs⟩
 refine iT (bK (bK (dU (ak (aO (nG (aa (ah (v := (.pointer (some ⟨b3, 0, none⟩))) rfl) ?_)))))))
 obtain ⟨l108a, l108b, l108c⟩ := h.kC 4 (C := (.blk b3 [v48, (.bool (tY))] : Chunk)) rfl trivial
 obtain ⟨qd, e110, hs⟩ := aJ hs
 refine aR KH rfl rfl (mq _ _ l108c b3 (⟨El, tY⟩ : jo) v48 l108a l108b (h.Er 4 15 rfl rfl) 24 _ e110) ?_
 rintro _ w ⟨k113, u111, rfl, h114, h115, g112⟩
 refine ⟨_, rfl, ?_⟩
 replace h := h.back 4 (C := (.blk b3 [v48, (.bool (tY))] : Chunk)) (C' := (.blk b3 [u111, (.bool (qd.2.bad))] : Chunk)) rfl trivial h114 k113 h115
 replace h := h.bM 25 (kg g112)
 refine aa (ah (v := (I6 0)) rfl) (nN (aP ?_))
 replace h := h.zh 25 32 rfl
 replace h := h.zb (R := (oV bJ)) (E := 47) 33
 refine fT (σ := Nat × Int × Value × List Int × Bool × Value × List (List Val)) (inl (rg 52 12)) (fun ⟨Ye, Gm, KJ, Le, E8, v138, Ce⟩ => [(52, (I6 Gm))]) (fun ⟨Ye, Gm, KJ, Le, E8, v138, Ce⟩ w => SH w0 M BE w (hset [(1, .sr jR va a), (3, .blk b1 [(.slice none 0 0), (.slice none 0 0), (I6 0), (I6 0)]), (4, .blk b3 [KJ, (.bool (E8))]), (5, .blk b4 [v51, v138, (I6 y6.1), (I6 sS.1)]), (16, .own eu 49 v51 vG), (32, .rd dA KJ Le), (33, .own (oV bJ) 47 v138 Ce)]) ∧ again (mD N qd a vG y6 sS) Ye (Gm, Le, E8, Ce) = some r) (fun ⟨Ye, Gm, KJ, Le, E8, v138, Ce⟩ => Ye) ⟨N, 0, u111, qd.2.l, qd.2.bad, (.slice none 0 0), []⟩ ⟨rfl, trivial⟩ ?_ ?_
 exact ⟨h.cn _, hs⟩
 rintro ⟨Ye, Gm, KJ, Le, E8, v138, Ce⟩ w dz ⟨h, hs⟩
 obtain ⟨m1431, m143e, m143h⟩ := og hs
 subst m143e
 replace hs := m143h
 generalize hnx144 : again (mD N qd a vG y6 sS) m1431 = PS at hs
 refine nG (aa (dL rfl rfl) (nN (aO (aH hs rfl (fun c147 hs => ?_) (fun c147 hs => ?_)))))
 refine aI (ak (bX (σ := Value × List Int × Bool × Value × List (List Val)) (inl (rg 54 9)) (fun ⟨v148, Rw, y150, Yf, y152⟩ => []) (fun ⟨v148, Rw, y150, Yf, y152⟩ w => SH w0 M BE w (hset [(1, .sr jR va a), (3, .blk b1 [(.slice none 0 0), (.slice none 0 0), (I6 0), (I6 0)]), (4, .blk b3 [v148, (.bool (y150))]), (5, .blk b4 [v51, Yf, (I6 y6.1), (I6 sS.1)]), (16, .own eu 49 v51 vG), (33, .own (oV bJ) 47 Yf y152), (95, .rd dA v148 Rw)]) ∧ yU Gm PS Rw y150 y152 = some r) ?_ ?_))
 rintro ⟨v148, Rw, y150, Yf, y152⟩ w dz ⟨h, hs⟩
 refine aB ?_
 obtain ⟨a153, hs⟩ := bu hs
 refine aa (dm rfl rfl a153) (aa (ah (v := (I6 ((Gm + 1)))) rfl) (ay (au ?_)))
 replace h := h.zh 95 32 rfl
 subst hnx144
 exact jQ ⟨m1431, (Gm + 1), v148, Rw, y150, Yf, y152⟩ ⟨h.cn _, hs⟩
 refine aP (kL (L := (fun b => b = b3 ∨ ob v138 b ∨ b = b4)) mixed h fun w h => bA 0 (aD.refl _ _) rfl aj (by kernel_rfl) (by kernel_rfl) (by kernel_rfl) (fun w hk => ag il rfl) (bA 2 (aD.refl _ _) rfl aj (by kernel_rfl) (by kernel_rfl) (by kernel_rfl) (fun w hk => ah (v := (.pointer (some ⟨b3, 0, none⟩))) rfl) (bA 3 (aD.refl _ _) rfl aj (by kernel_rfl) (by kernel_rfl) (by kernel_rfl) (fun w hk => ah (v := (.pointer (some ⟨b3, 0, none⟩))) rfl) ?_)))
 obtain ⟨jg, Mt, hs⟩ := aJ hs
 obtain ⟨eD, Io, hs⟩ := aJ hs
 obtain ⟨uB, hs⟩ := bu hs
 obtain ⟨Gn, Yg⟩ : ∃ x, x = w := ⟨_, rfl⟩
 have dV : aD (fun b => b = b3 ∨ ob v138 b ∨ b = b4) Gn w := Yg ▸ aD.refl (fun b => b = b3 ∨ ob v138 b ∨ b = b4) w
 refine rU Yg.symm (lu 1 4 (by kernel_rfl) rfl aj rfl aj ?_ ?_)
 refine aa (aA h 5 rfl kr rfl rfl) (ay (aN dV (bg 4 (by kernel_rfl) rfl aj ?_)))
 obtain ⟨E9, Fa, Fb⟩ := h.kC 4 (C := (.blk b3 [KJ, (.bool (E8))] : Chunk)) rfl trivial
 refine aR KH rfl rfl (mq _ _ Fb b3 (⟨Le, E8⟩ : jo) KJ E9 Fa (h.Er 4 32 rfl rfl) 4 _ Mt) ?_
 rintro _ w ⟨Ba, nk, rfl, Ip, Iq, Ir⟩
 refine ⟨_, rfl, ?_⟩
 replace h := h.back 4 (C := (.blk b3 [KJ, (.bool (E8))] : Chunk)) (C' := (.blk b3 [nk, (.bool (jg.2.bad))] : Chunk)) rfl trivial Ip Ba Iq
 replace h := h.bM 144 (kg Ir)
 replace dV := aD.step dV Ba (fun _ hx _ => .inl (hx))
 refine ay (aN dV (bg 5 (by kernel_rfl) rfl aj ?_))
 obtain ⟨yV, yX, yY⟩ := h.kC 4 (C := (.blk b3 [nk, (.bool (jg.2.bad))] : Chunk)) rfl trivial
 refine aR NY rfl rfl (nI N _ _ yY b3 jg.2 nk yV yX (h.Er 4 144 rfl rfl) jg.1 _ Io) ?_
 rintro _ w ⟨uC, yo, rO, rfl, Bb, yZ, Bc, Bd⟩
 refine ⟨_, rfl, ?_⟩
 replace h := h.back 4 (C := (.blk b3 [nk, (.bool (jg.2.bad))] : Chunk)) (C' := (.blk b3 [rO, (.bool (eD.2.bad))] : Chunk)) rfl trivial Bb uC yZ
 replace h := h.bM 156 (kg Bc)
 replace h := h.bM 157 (kg Bd).up
 replace dV := aD.step dV uC (fun _ hx _ => .inl (hx))
 refine ay (aN dV (bg 6 (by kernel_rfl) rfl aj (wK (R := (oV bJ)) (vs := [yo]) (xs := [eD.1]) h 168 jS rfl rfl rfl ⟨(h.fM 156 rfl).rdc, trivial⟩ rfl fun w wy h tL tN => ?_)))
 have Fe : ∀ b, ob wy b → Gn.heap.size ≤ b := fun b hb => Nat.le_trans dV.size (tN b hb)
 replace dV := dV.grow tL
 refine ay (aN dV (bg 7 (by kernel_rfl) rfl aj ?_))
 have Ff := dV.size
 refine kS (R := (oV bJ)) (m := [eD.1]) h 33 rfl (h.dG 168 rfl) jS rfl rfl rfl uB.1 uB.2 fun w j4 h tO tQ => ?_
 have Fg : ∀ b, ob j4 b → b < Gn.heap.size → ob v138 b := fun b hb hl => tQ b hb (Nat.lt_of_lt_of_le hl (dV).size)
 replace dV := aD.step dV tO (fun _ hx _ => .inr (.inl (hx)))
 refine ay (aN dV (cK 8 dV rfl (by kernel_rfl) (fun w hk => ag il rfl) (bg 9 (by kernel_rfl) rfl aj (o7 h 5 [v51, j4, (I6 y6.1), (I6 sS.1)] rfl kr rfl rfl rfl rfl (h.dC 33 rfl).one fun w h wz => ?_))))
 replace dV := aD.step dV wz (fun _ hx _ => .inr (.inr (hx)))
 refine ay (aN dV (eY (by kernel_rfl) (ax (au ?_))))
 replace h := h.zh 157 95 rfl
 exact bP (rO, eD.2.l, eD.2.bad, j4, (Ce ++ [eD.1])) ⟨h.cn _, hs⟩
 obtain ⟨E9, Fa, Fb⟩ := h.kC 4 (C := (.blk b3 [KJ, (.bool (E8))] : Chunk)) rfl trivial
 refine aR KH rfl rfl (mq _ _ Fb b3 (⟨Le, E8⟩ : jo) KJ E9 Fa (h.Er 4 32 rfl rfl) 4 _ Mt) ?_
 rintro _ w ⟨Ba, nk, rfl, Ip, Iq, Ir⟩
 refine ⟨_, rfl, ?_⟩
 replace h := h.back 4 (C := (.blk b3 [KJ, (.bool (E8))] : Chunk)) (C' := (.blk b3 [nk, (.bool (jg.2.bad))] : Chunk)) rfl trivial Ip Ba Iq
 replace h := h.bM 144 (kg Ir)
 replace dV := aD.step dV Ba (fun _ hx _ => .inl (hx))
 refine ay (aN dV (lu 1 5 (by kernel_rfl) rfl aj rfl aj ?_ ?_))
 refine aa (aA h 5 rfl kr rfl rfl) (ay (aN dV (bg 5 (by kernel_rfl) rfl aj ?_)))
 obtain ⟨yV, yX, yY⟩ := h.kC 4 (C := (.blk b3 [nk, (.bool (jg.2.bad))] : Chunk)) rfl trivial
 refine aR NY rfl rfl (nI N _ _ yY b3 jg.2 nk yV yX (h.Er 4 144 rfl rfl) jg.1 _ Io) ?_
 rintro _ w ⟨uC, yo, rO, rfl, Bb, yZ, Bc, Bd⟩
 refine ⟨_, rfl, ?_⟩
 replace h := h.back 4 (C := (.blk b3 [nk, (.bool (jg.2.bad))] : Chunk)) (C' := (.blk b3 [rO, (.bool (eD.2.bad))] : Chunk)) rfl trivial Bb uC yZ
 replace h := h.bM 156 (kg Bc)
 replace h := h.bM 157 (kg Bd).up
 replace dV := aD.step dV uC (fun _ hx _ => .inl (hx))
 refine ay (aN dV (bg 6 (by kernel_rfl) rfl aj (wK (R := (oV bJ)) (vs := [yo]) (xs := [eD.1]) h 168 jS rfl rfl rfl ⟨(h.fM 156 rfl).rdc, trivial⟩ rfl fun w wy h tL tN => ?_)))
 have Fe : ∀ b, ob wy b → Gn.heap.size ≤ b := fun b hb => Nat.le_trans dV.size (tN b hb)
 replace dV := dV.grow tL
 refine ay (aN dV (bg 7 (by kernel_rfl) rfl aj ?_))
 have Ff := dV.size
 refine kS (R := (oV bJ)) (m := [eD.1]) h 33 rfl (h.dG 168 rfl) jS rfl rfl rfl uB.1 uB.2 fun w j4 h tO tQ => ?_
 have Fg : ∀ b, ob j4 b → b < Gn.heap.size → ob v138 b := fun b hb hl => tQ b hb (Nat.lt_of_lt_of_le hl (dV).size)
 replace dV := aD.step dV tO (fun _ hx _ => .inr (.inl (hx)))
 refine ay (aN dV (cK 8 dV rfl (by kernel_rfl) (fun w hk => ag il rfl) (bg 9 (by kernel_rfl) rfl aj (o7 h 5 [v51, j4, (I6 y6.1), (I6 sS.1)] rfl kr rfl rfl rfl rfl (h.dC 33 rfl).one fun w h wz => ?_))))
 replace dV := aD.step dV wz (fun _ hx _ => .inr (.inr (hx)))
 refine ay (aN dV (eY (by kernel_rfl) (ax (au ?_))))
 replace h := h.zh 157 95 rfl
 exact bP (rO, eD.2.l, eD.2.bad, j4, (Ce ++ [eD.1])) ⟨h.cn _, hs⟩
 obtain ⟨yV, yX, yY⟩ := h.kC 4 (C := (.blk b3 [nk, (.bool (jg.2.bad))] : Chunk)) rfl trivial
 refine aR NY rfl rfl (nI N _ _ yY b3 jg.2 nk yV yX (h.Er 4 144 rfl rfl) jg.1 _ Io) ?_
 rintro _ w ⟨uC, yo, rO, rfl, Bb, yZ, Bc, Bd⟩
 refine ⟨_, rfl, ?_⟩
 replace h := h.back 4 (C := (.blk b3 [nk, (.bool (jg.2.bad))] : Chunk)) (C' := (.blk b3 [rO, (.bool (eD.2.bad))] : Chunk)) rfl trivial Bb uC yZ
 replace h := h.bM 156 (kg Bc)
 replace h := h.bM 157 (kg Bd).up
 replace dV := aD.step dV uC (fun _ hx _ => .inl (hx))
 refine ay (aN dV (lu 1 6 (by kernel_rfl) rfl aj rfl aj ?_ ?_))
 refine aa (aA h 5 rfl kr rfl rfl) (ay (aN dV (bg 6 (by kernel_rfl) rfl aj (wK (R := (oV bJ)) (vs := [yo]) (xs := [eD.1]) h 168 jS rfl rfl rfl ⟨(h.fM 156 rfl).rdc, trivial⟩ rfl fun w wy h tL tN => ?_))))
 have Fe : ∀ b, ob wy b → Gn.heap.size ≤ b := fun b hb => Nat.le_trans dV.size (tN b hb)
 replace dV := dV.grow tL
 refine ay (aN dV (bg 7 (by kernel_rfl) rfl aj ?_))
 have Ff := dV.size
 refine kS (R := (oV bJ)) (m := [eD.1]) h 33 rfl (h.dG 168 rfl) jS rfl rfl rfl uB.1 uB.2 fun w j4 h tO tQ => ?_
 have Fg : ∀ b, ob j4 b → b < Gn.heap.size → ob v138 b := fun b hb hl => tQ b hb (Nat.lt_of_lt_of_le hl (dV).size)
 replace dV := aD.step dV tO (fun _ hx _ => .inr (.inl (hx)))
 refine ay (aN dV (cK 8 dV rfl (by kernel_rfl) (fun w hk => ag il rfl) (bg 9 (by kernel_rfl) rfl aj (o7 h 5 [v51, j4, (I6 y6.1), (I6 sS.1)] rfl kr rfl rfl rfl rfl (h.dC 33 rfl).one fun w h wz => ?_))))
 replace dV := aD.step dV wz (fun _ hx _ => .inr (.inr (hx)))
 refine ay (aN dV (eY (by kernel_rfl) (ax (au ?_))))
 replace h := h.zh 157 95 rfl
 exact bP (rO, eD.2.l, eD.2.bad, j4, (Ce ++ [eD.1])) ⟨h.cn _, hs⟩
 refine wK (R := (oV bJ)) (vs := [yo]) (xs := [eD.1]) h 168 jS rfl rfl rfl ⟨(h.fM 156 rfl).rdc, trivial⟩ rfl fun w wy h tL tN => ?_
 have Fe : ∀ b, ob wy b → Gn.heap.size ≤ b := fun b hb => Nat.le_trans dV.size (tN b hb)
 replace dV := dV.grow tL
 refine ay (aN dV (bg 1 (by kernel_rfl) rfl aj (aa (aA h 5 rfl kr rfl rfl) (ay (aN dV (bg 7 (by kernel_rfl) rfl aj ?_))))))
 have Ff := dV.size
 refine kS (R := (oV bJ)) (m := [eD.1]) h 33 rfl (h.dG 168 rfl) jS rfl rfl rfl uB.1 uB.2 fun w j4 h tO tQ => ?_
 have Fg : ∀ b, ob j4 b → b < Gn.heap.size → ob v138 b := fun b hb hl => tQ b hb (Nat.lt_of_lt_of_le hl (dV).size)
 replace dV := aD.step dV tO (fun _ hx _ => .inr (.inl (hx)))
 refine ay (aN dV (cK 8 dV rfl (by kernel_rfl) (fun w hk => ag il rfl) (bg 9 (by kernel_rfl) rfl aj (o7 h 5 [v51, j4, (I6 y6.1), (I6 sS.1)] rfl kr rfl rfl rfl rfl (h.dC 33 rfl).one fun w h wz => ?_))))
 replace dV := aD.step dV wz (fun _ hx _ => .inr (.inr (hx)))
 refine ay (aN dV (eY (by kernel_rfl) (ax (au ?_))))
 replace h := h.zh 157 95 rfl
 exact bP (rO, eD.2.l, eD.2.bad, j4, (Ce ++ [eD.1])) ⟨h.cn _, hs⟩
 refine iT (bK (bK (dU (ak (aO (nG (aa (ah (v := (.pointer (some ⟨b3, 0, none⟩))) rfl) (aa (bz rfl) (aa (ag NW rfl) (aa (aA h 4 rfl xz rfl rfl) (aa (ah (v := (.bool (E8))) rfl) (aC rfl rfl (fun q => ah (v := (.pointer (some ⟨b3, 0, none⟩))) rfl) (aC rfl rfl (fun q => bz (dE q)) (aC rfl rfl (fun q => ag Gl (dE q)) (aC rfl rfl (fun q => aA h 4 rfl rQ (dE q) rfl) (aC rfl rfl (fun q => bT bZ (dE q) (h.mM 32 rfl)) (aC rfl rfl (fun q => j5 (dE q) rfl) (aa (iy rfl rfl nQ) (nN (aH hs rfl (fun c167 hs => ?_) (fun c167 hs => ?_)))))))))))))))))))))
 refine nG (aa (dH (pv := []) (out := [(.slice none 0 0), (.slice none 0 0), (I6 0), (I6 0)]) r9 rfl rfl) (dn (vs := [(.slice none 0 0), (.slice none 0 0), (I6 0), (I6 0)]) h 3 [(.slice none 0 0), (.slice none 0 0), (I6 0), (I6 0)] rfl bV rfl rfl rfl rfl rfl (ai rfl (ai rfl (ai rfl (ai rfl aT)))) fun w h => aa (ae (v := (I6 8)) rfl) (nR (az (jV (vs := [(.slice none 0 0), (.slice none 0 0), (I6 0), (I6 0)]) (v2 := (I6 8)) Tryz.results15 rfl rfl h 3 rfl bV rfl ?_)))))
 obtain rfl := fI hs
 exact ⟨h.grown, _, _, rfl, fP.nil, fP.nil⟩
 refine aI (ak (aO (nG (aa (ah (v := va) rfl) (aa (dh (vs := [v51, v138, (I6 y6.1), (I6 sS.1)]) h 5 rfl bV rfl rfl rfl) ?_)))))
 obtain ⟨y168, e169, hs⟩ := aJ hs
 refine aR Qm rfl rfl (EG _ _ h.lt va a (h.iM 1 rfl) (⟨vG, Ce, y6.1, sS.1⟩ : LX.State) v51 v138 (h.dG 16 rfl) (h.dG 33 rfl) _ e169) ?_
 rintro _ w ⟨k170, rfl⟩
 refine ⟨_, rfl, ?_⟩
 replace h := h.grow k170
 refine aa (ae (v := (I6 y168)) rfl) (nJ (aa (ah (v := (I6 y168)) rfl) (aa (iP rfl rfl) (nN (aH hs rfl (fun c171 hs => ?_) (fun c171 hs => ?_))))))
 refine nG (aa (dH (pv := []) (out := [(.slice none 0 0), (.slice none 0 0), (I6 0), (I6 0)]) r9 rfl rfl) (aa (ah (v := (I6 y168)) rfl) (dn (vs := [(.slice none 0 0), (.slice none 0 0), (I6 0), (I6 0)]) h 3 [(.slice none 0 0), (.slice none 0 0), (I6 0), (I6 0)] rfl bV rfl rfl rfl rfl rfl (ai rfl (ai rfl (ai rfl (ai rfl aT)))) fun w h => aa (ae (v := (I6 y168)) rfl) (nR (az (jV (vs := [(.slice none 0 0), (.slice none 0 0), (I6 0), (I6 0)]) (v2 := (I6 y168)) Tryz.results15 rfl rfl h 3 rfl bV rfl ?_))))))
 obtain rfl := fI hs
 exact ⟨h.grown, _, _, rfl, fP.nil, fP.nil⟩
 refine aI (ak (aO (aO (Bw mixed h fun w h => dD 0 (aD.refl BE _) rfl aj (by kernel_rfl) (by kernel_rfl) (by kernel_rfl) (fun w hk => have h := h.grow hk; dh (vs := [v51, v138, (I6 y6.1), (I6 sS.1)]) h 5 rfl bV rfl rfl rfl) (dD 2 (aD.refl BE _) rfl aj (by kernel_rfl) (by kernel_rfl) (by kernel_rfl) (fun w hk => have h := h.grow hk; dh (vs := [v51, v138, (I6 y6.1), (I6 sS.1)]) h 5 rfl bV rfl rfl rfl) ?_)))))
 obtain ⟨ws173, Yh⟩ : ∃ x, x = w := ⟨_, rfl⟩
 have KL : Grow ws173 w := Yh ▸ aD.refl BE w
 refine IA Yh.symm (qH 1 (by kernel_rfl) rfl aj ?_)
 obtain ⟨A9, UX, hs⟩ := aJ hs
 refine aR GI rfl rfl (vS N _ _ h.lt (⟨vG, Ce, y6.1, sS.1⟩ : LX.State) v51 v138 (h.dG 16 rfl) (h.dG 33 rfl) _ UX) ?_
 rintro _ w ⟨Mv, Mw, Mx, Ry, Rz, rfl, UY, UZ⟩
 refine ⟨_, rfl, ?_⟩
 replace h := h.JA 240 (C := (cU Mw Mx A9.frames Ry A9.cells Rz)) Mv ⟨⟨⟨trivial, trivial⟩, trivial⟩, trivial⟩ UY UZ
 replace h := h.bN 240 243 (by decide) rfl rfl
 replace h := h.bN 240 242 (by decide) rfl rfl
 replace h := h.bN 240 241 (by decide) rfl rfl
 replace KL := KL.trans Mv
 refine ay (kQ KL (qH 3 (by kernel_rfl) rfl aj ?_))
 obtain ⟨Ms, U0, hs⟩ := aJ hs
 refine aR Ni rfl rfl (DY _ BE (fun _ h => h.elim) A9 Mw Mx (h.xx (N := bU) (R' := eu) 240 241 rfl rfl (by decide) rfl vP) (h.xx (N := (eT Val)) (R' := (oV bJ)) 242 243 rfl rfl (by decide) rfl BB) (⟨vG, Ce, y6.1, sS.1⟩ : LX.State) v51 v138 (fP.VV (h.dG 16 rfl)) (fP.VV (h.dG 33 rfl)) _ U0) ?_
 rintro _ w ⟨MB, rfl⟩
 refine ⟨_, rfl, ?_⟩
 replace h := h.grow MB
 replace KL := KL.trans MB
 refine ay (kQ KL (uK 4 KL rfl (by kernel_rfl) (fun w hk => gQ rfl) (ru (by kernel_rfl) (ak (aH hs rfl (fun c175 hs => ?_) (fun c175 hs => ?_))))))
 refine nG (aa (dH (pv := []) (out := [(.slice none 0 0), (.slice none 0 0), (I6 0), (I6 0)]) r9 rfl rfl) (dn (vs := [(.slice none 0 0), (.slice none 0 0), (I6 0), (I6 0)]) h 3 [(.slice none 0 0), (.slice none 0 0), (I6 0), (I6 0)] rfl bV rfl rfl rfl rfl rfl (ai rfl (ai rfl (ai rfl (ai rfl aT)))) fun w h => aa (ae (v := (I6 4)) rfl) (nR (az (jV (vs := [(.slice none 0 0), (.slice none 0 0), (I6 0), (I6 0)]) (v2 := (I6 4)) Tryz.results15 rfl rfl h 3 rfl bV rfl ?_)))))
 obtain rfl := fI hs
 exact ⟨h.grown, _, _, rfl, fP.nil, fP.nil⟩
 refine nS (aa (dh (vs := [v51, v138, (I6 y6.1), (I6 sS.1)]) h 5 rfl bV rfl rfl rfl) (dn (vs := [v51, v138, (I6 y6.1), (I6 sS.1)]) h 3 [v51, v138, (I6 y6.1), (I6 sS.1)] rfl bV rfl rfl rfl rfl rfl (ai (h.dC 16 rfl).one (ai (h.dC 33 rfl).one (ai rfl (ai rfl aT)))) fun w h => aa (ae (v := (I6 0)) rfl) (nR (jV (vs := [v51, v138, (I6 y6.1), (I6 sS.1)]) (v2 := (I6 0)) Tryz.results15 rfl rfl h 3 rfl bV rfl ?_))))
 replace h := h.freeze 16 rfl
 replace h := h.freeze 33 rfl
 obtain rfl := fI hs
 exact ⟨h.grown, _, _, rfl, h.Vx 16 rfl, h.Vx 33 rfl⟩
def mE (N : Nat) : Option Bool :=
  (kM N).bind fun y1 => (zu N y1).bind fun y7 => (Xh y7).bind fun y13 => (yn N y7 y13.1).bind fun y21 => (uA N y7 y21.1).bind fun y27 => gJ (jI ((y21.1.length : Int) - 1)) ((sub? y21.1 0 (max 0 ((y21.1.length : Int) - 1))).bind fun sZ => (uA N y7 sZ).bind fun Fj => bif (((decide ((y13.2 : Int) = 0) && decide ((y21.2 : Int) = 0)) && decide ((y27.2 : Int) = 0)) && decide ((Fj.2 : Int) = 8)) then (zx y13.1 y27.1).bind fun tY => some tY else some false)
theorem xq (N : Nat) (w0 : World) (M : BS) (hM : ∀ b, M b → b < w0.heap.size) (hT : wL Tryz.prog 4 w0)  (r : Bool) (hs : mE N = some r) :
    Calls Tryz.prog 14 #[] w0 (fun e w' => Grow w0 w' ∧ e = .returned (.bool r)) := by
 refine aL (args := []) Tryz.func14 rfl Tryz.ntmps14 (bC rfl) ?_
 have h := SH.init hM
 refine nG (aa (ae (v := (.bool (false))) rfl) (nJ ?_))
 obtain ⟨y1, e2, hs⟩ := aJ hs
 refine aR fnOk40 rfl rfl (Cq N _ _ h.lt (hT.go h.keep)  _ e2) ?_
 rintro _ w ⟨k6, u3, rfl, g4, g5⟩
 refine ⟨_, rfl, ?_⟩
 replace h := h.kG 1 k6 g4 g5
 obtain ⟨y7, e8, hs⟩ := aJ hs
 refine aR fnOk39 rfl rfl (Eb N _ _ h.lt u3 y1 (h.dG 1 rfl) _ e8) ?_
 rintro _ w ⟨k12, u9, rfl, g10, g11⟩
 refine ⟨_, rfl, ?_⟩
 replace h := h.kG 2 k12 g10 g11
 refine aa (ae (v := u9) rfl) (nJ (aa (ah (v := u9) rfl) ?_))
 obtain ⟨y13, e14, hs⟩ := aJ hs
 refine aR fnOk29 rfl rfl (Xi _ _ h.lt u9 y7 (h.dG 2 rfl) _ e14) ?_
 rintro _ w ⟨k19, Fh, Bi, rfl, g16, g18⟩
 refine ⟨_, rfl, ?_⟩
 replace h := h.Iz 3 k19 g16
 replace h := h.bM 4 g18.up
 refine aa (ah (v := (.tuple #[(.agg #[Fh, Bi, (I6 y13.1.status), (I6 y13.1.aQ)]), (I6 y13.2)])) rfl) (aa (aY rfl rfl) (aa (aY rfl rfl) (bO h 5 bV fun w b20 h => dn (vs := [Fh, Bi, (I6 y13.1.status), (I6 y13.1.aQ)]) h 5 [Fh, Bi, (I6 y13.1.status), (I6 y13.1.aQ)] rfl bV rfl rfl rfl rfl rfl (ai (h.fM 3 rfl).one (ai (h.fM 4 rfl).one (ai rfl (ai rfl aT)))) fun w h => aa (ae (v := (I6 y13.2)) rfl) (nJ (aa (ah (v := u9) rfl) (aa (dh (vs := [Fh, Bi, (I6 y13.1.status), (I6 y13.1.aQ)]) h 5 rfl bV rfl rfl rfl) ?_))))))
 obtain ⟨y21, e22, hs⟩ := aJ hs
 refine aR Rm rfl rfl (Dr N _ _ h.lt u9 y7 (h.dG 2 rfl) y13.1 Fh Bi (h.mM 3 rfl) (h.mM 4 rfl) _ e22) ?_
 rintro _ w ⟨k26, u23, rfl, g24, g25⟩
 refine ⟨_, rfl, ?_⟩
 replace h := h.kG 6 k26 g24 g25
 refine aa (ah (v := (.tuple #[u23, (I6 y21.2)])) rfl) (aa (aY rfl rfl) (aa (aY rfl rfl) (aa (ae (v := u23) rfl) (aa (ae (v := (I6 y21.2)) rfl) (nJ (aa (ah (v := u9) rfl) (aa (ah (v := u23) rfl) ?_)))))))
 replace h := h.freeze 6 rfl
 obtain ⟨y27, e28, hs⟩ := aJ hs
 refine aR Rn rfl rfl (zT N _ _ h.lt u9 y7 (h.dG 2 rfl) u23 y21.1 (h.fM 6 rfl) _ e28) ?_
 rintro _ w ⟨Vj, u29, u31, rfl, g30, g32⟩
 refine ⟨_, rfl, ?_⟩
 replace h := h.Iz 7 Vj g30
 replace h := h.bM 8 g32.up
 refine aa (ah (v := (.tuple #[(.agg #[u29, u31, (I6 y27.1.status), (I6 y27.1.aQ)]), (I6 y27.2)])) rfl) (aa (aY rfl rfl) (aa (aY rfl rfl) (bO h 9 bV fun w b34 h => dn (vs := [u29, u31, (I6 y27.1.status), (I6 y27.1.aQ)]) h 9 [u29, u31, (I6 y27.1.status), (I6 y27.1.aQ)] rfl bV rfl rfl rfl rfl rfl (ai (h.fM 7 rfl).one (ai (h.fM 8 rfl).one (ai rfl (ai rfl aT)))) fun w h => aa (ae (v := (I6 y27.2)) rfl) (nJ (aa (ah (v := u9) rfl) (aa (ah (v := u23) rfl) (aa (ah (v := u23) rfl) (aa (bT bZ rfl (h.mM 6 rfl)) ?_))))))))
 obtain ⟨a35, hs⟩ := bu hs
 refine aa (oO rfl rfl a35) (aa (ZX rfl rfl) ?_)
 obtain ⟨sZ, e37, hs⟩ := aJ hs
 obtain ⟨e40, Xe, Xf, e40c⟩ := Oe e37
 obtain ⟨u38, h, i39⟩ := h.slR 6 10 rfl bZ rfl Xe Xf e40c
 rw [← e40] at h
 refine aa (i39 _ _ _ _ _ _ _ _ _ _ rfl (.inl ⟨rfl, rfl⟩) (.inr (congrArg some rfl))) ?_
 obtain ⟨Fj, e42, hs⟩ := aJ hs
 refine aR Rn rfl rfl (zT N _ _ h.lt u9 y7 (h.dG 2 rfl) u38 sZ (h.fM 10 rfl) _ e42) ?_
 rintro _ w ⟨k47, Ud, u45, rfl, g44, g46⟩
 refine ⟨_, rfl, ?_⟩
 replace h := h.Iz 11 k47 g44
 replace h := h.bM 12 g46.up
 refine aa (ah (v := (.tuple #[(.agg #[Ud, u45, (I6 Fj.1.status), (I6 Fj.1.aQ)]), (I6 Fj.2)])) rfl) (aa (aY rfl rfl) (aa (aY rfl rfl) (bO h 13 bV fun w b48 h => dn (vs := [Ud, u45, (I6 Fj.1.status), (I6 Fj.1.aQ)]) h 13 [Ud, u45, (I6 Fj.1.status), (I6 Fj.1.aQ)] rfl bV rfl rfl rfl rfl rfl (ai (h.fM 11 rfl).one (ai (h.fM 12 rfl).one (ai rfl (ai rfl aT)))) fun w h => aa (ae (v := (I6 Fj.2)) rfl) (nJ (aa (ah (v := (I6 y13.2)) rfl) (aa (bD rfl rfl) (aa (ah (v := (.bool (decide ((y13.2 : Int) = 0)))) rfl) (aC rfl rfl (fun q => ah (v := (I6 y21.2)) rfl) (aC rfl rfl (fun q => bD (dE q) rfl) (aa (gP rfl rfl nQ) (aa (ah (v := (.bool ((decide ((y13.2 : Int) = 0) && decide ((y21.2 : Int) = 0))))) rfl) (aC rfl rfl (fun q => ah (v := (I6 y27.2)) rfl) (aC rfl rfl (fun q => bD (dE q) rfl) (aa (gP rfl rfl nQ) (aa (ah (v := (.bool (((decide ((y13.2 : Int) = 0) && decide ((y21.2 : Int) = 0)) && decide ((y27.2 : Int) = 0))))) rfl) (aC rfl rfl (fun q => ah (v := (I6 Fj.2)) rfl) (aC rfl rfl (fun q => bD (dE q) rfl) (aa (gP rfl rfl nQ) ?_))))))))))))))))))
 refine aa (ah (v := (.bool ((((decide ((y13.2 : Int) = 0) && decide ((y21.2 : Int) = 0)) && decide ((y27.2 : Int) = 0)) && decide ((Fj.2 : Int) = 8))))) rfl) (jL (b := (((decide ((y13.2 : Int) = 0) && decide ((y21.2 : Int) = 0)) && decide ((y27.2 : Int) = 0)) && decide ((Fj.2 : Int) = 8))) hs (fun c49 hs => ?_) (fun c49 hs => ?_))
 refine dX rfl (cB c49) (aa (dh (vs := [Fh, Bi, (I6 y13.1.status), (I6 y13.1.aQ)]) h 5 rfl bV rfl rfl rfl) (dX rfl (cB c49) (aa (dh (vs := [u29, u31, (I6 y27.1.status), (I6 y27.1.aQ)]) h 9 rfl bV rfl rfl rfl) (dX rfl (cB c49) ?_))))
 obtain ⟨tY, e51, hs⟩ := aJ hs
 refine aR Ni rfl rfl (DY _ _ h.lt y13.1 Fh Bi (h.mM 3 rfl) (h.mM 4 rfl) y27.1 u29 u31 (h.mM 7 rfl) (h.mM 8 rfl) _ e51) ?_
 rintro _ w ⟨k52, rfl⟩
 refine ⟨_, rfl, ?_⟩
 replace h := h.grow k52
 refine aa (dJ (b := true) (v := (.bool (tY))) (cB c49) rfl) (aa (ae (v := (.bool (tY))) rfl) (nR (bR (v := (.bool (tY))) Tryz.results14 rfl ?_)))
 obtain rfl := fI hs
 exact ⟨h.grown, rfl⟩
 refine yx rfl (cB c49) rfl (yx rfl (cB c49) rfl (yx rfl (cB c49) rfl (aa (dJ (b := false) (v := (.bool (false))) (cB c49) rfl) (aa (ae (v := (.bool (false))) rfl) (nR (bR (v := (.bool (false))) Tryz.results14 rfl ?_))))))
 obtain rfl := fI hs
 exact ⟨h.grown, rfl⟩
def jM (N : Nat) (b : LX.State) (lh : LX.State × Int) (c : Int) (a : List bQ) (x31 : Bool) : Option Bool :=
  bif x31 then some false else bif decide ((b.status : Int) ≠ 0) then some (decide ((b.status : Int) = lh.1.status) && decide ((b.aQ : Int) = lh.1.aQ)) else (vv c 500).bind fun y34 => (Kh N a b y34).bind fun Db => (Kh N a lh.1 y34).bind fun rR => bif decide ((Db.2.2.2 : Int) = 0) then bif decide ((rR.2.2.2 : Int) = 0) then bif decide ((Db.2.2.1 : Int) = rR.2.2.1) then (slices_Equal_int Db.2.1 rR.2.1).bind fun Be => bif Be then (sD N Db.1).bind fun Bf => (sD N rR.1).bind fun Bg => (zx Bf Bg).bind fun Bh => some Bh else some false else some false else some false else some false
def jN (N : Nat) (a : List bQ) (lh : LX.State × Int) (b : LX.State) (c : Int) (y2 : List Int × Int) (rW : Bool) : Option Bool :=
  bif rW then some false else (yn N a lh.1).bind fun y25 => bif decide ((y25.2 : Int) ≠ 0) then jM N b lh c a true else (slices_Equal_int y2.1 y25.1).bind fun BM => jM N b lh c a (!BM)
def p9 (N : Nat) (a : List bQ) (b : LX.State) (c : Int) : Option Bool :=
  (yn N a b).bind fun y2 => (mE N).bind fun y8 => bif ((!y8) || decide ((y2.2 : Int) ≠ 0)) then (mE N).bind fun FU => some FU else (uA N a y2.1).bind fun lh => bif decide ((lh.2 : Int) ≠ 0) then jN N a lh b c y2 true else (sD N b).bind fun Dt => (zx lh.1 Dt).bind fun Gp => jN N a lh b c y2 (!Gp)
theorem zU (N : Nat) (w0 : World) (M : BS) (hM : ∀ b, M b → b < w0.heap.size) (hT : wL Tryz.prog 4 w0) (va : Value) (a : List bQ) (ha : eX jR w0 M va a) (b : LX.State) (vb0 vb1 : Value) (hb0 : fP eu w0 BE M vb0 b.frames) (hb1 : fP (oV bJ) w0 BE M vb1 b.cells) (c : Int) (r : Bool) (hs : p9 N a b c = some r) :
    Calls Tryz.prog 11 #[va, (.agg #[vb0, vb1, (I6 b.status), (I6 b.aQ)]), (I6 c)] w0 (fun e w' => Grow w0 w' ∧ e = .returned (.bool r)) := by
 refine aL (args := [va, (.agg #[vb0, vb1, (I6 b.status), (I6 b.aQ)]), (I6 c)]) Tryz.func11 rfl Tryz.ntmps11 (bC rfl) ?_
 have h := SH.init hM
 replace h := h.Vr 1 ha bE
 replace h := h.fG 2 hb0 (zg bE)
 replace h := h.fG 3 hb1 (cO (zg bE))
 have vE := ha.bW
 refine nG (oP (cs := [vb0, vb1, (I6 b.status), (I6 b.aQ)]) h 4 rfl rfl fun w b1 h => aa (ae (v := (.bool (false))) rfl) (nJ (aa (ah (v := va) rfl) (aa (dh (vs := [vb0, vb1, (I6 b.status), (I6 b.aQ)]) h 4 rfl bV rfl rfl rfl) ?_))))
 obtain ⟨y2, e3, hs⟩ := aJ hs
 refine aR Rm rfl rfl (Dr N _ _ h.lt va a (h.mM 1 rfl) b vb0 vb1 (h.iM 2 rfl) (h.iM 3 rfl) _ e3) ?_
 rintro _ w ⟨k7, u4, rfl, g5, g6⟩
 refine ⟨_, rfl, ?_⟩
 replace h := h.kG 5 k7 g5 g6
 refine aa (ah (v := (.tuple #[u4, (I6 y2.2)])) rfl) (aa (aY rfl rfl) (aa (aY rfl rfl) (aa (ae (v := u4) rfl) (aa (ae (v := (I6 y2.2)) rfl) (nK ?_)))))
 obtain ⟨y8, e9, hs⟩ := aJ hs
 refine aR X9 rfl rfl (xq N _ _ h.lt (hT.go h.keep)  _ e9) ?_
 rintro _ w ⟨k10, rfl⟩
 refine ⟨_, rfl, ?_⟩
 replace h := h.grow k10
 refine aa (gQ rfl) (aa (ah (v := (.bool ((!y8)))) rfl) (aC rfl rfl (fun q => ah (v := (I6 y2.2)) rfl) (aC rfl rfl (fun q => iP (dE q) rfl) (aa (iy rfl rfl nQ) (nN (aH hs rfl (fun c11 hs => ?_) (fun c11 hs => ?_)))))))
 refine nG ?_
 obtain ⟨FU, e13, hs⟩ := aJ hs
 refine aR X9 rfl rfl (xq N _ _ h.lt (hT.go h.keep)  _ e13) ?_
 rintro _ w ⟨k14, rfl⟩
 refine ⟨_, rfl, ?_⟩
 replace h := h.grow k14
 refine aa (ae (v := (.bool (FU))) rfl) (nR (az (bR (v := (.bool (FU))) Tryz.results11 rfl ?_)))
 obtain rfl := fI hs
 exact ⟨h.grown, rfl⟩
 refine nS (aa (ah (v := va) rfl) (aa (ah (v := u4) rfl) ?_))
 replace h := h.freeze 5 rfl
 obtain ⟨lh, e16, hs⟩ := aJ hs
 refine aR Rn rfl rfl (zT N _ _ h.lt va a (h.mM 1 rfl) u4 y2.1 (h.fM 5 rfl) _ e16) ?_
 rintro _ w ⟨k21, Bi, Ev, rfl, g18, g20⟩
 refine ⟨_, rfl, ?_⟩
 replace h := h.Iz 6 k21 g18
 replace h := h.bM 7 g20.up
 refine aa (ah (v := (.tuple #[(.agg #[Bi, Ev, (I6 lh.1.status), (I6 lh.1.aQ)]), (I6 lh.2)])) rfl) (aa (aY rfl rfl) (aa (aY rfl rfl) (bO h 8 bV fun w b22 h => dn (vs := [Bi, Ev, (I6 lh.1.status), (I6 lh.1.aQ)]) h 8 [Bi, Ev, (I6 lh.1.status), (I6 lh.1.aQ)] rfl bV rfl rfl rfl rfl rfl (ai (h.fM 6 rfl).one (ai (h.fM 7 rfl).one (ai rfl (ai rfl aT)))) fun w h => aa (ae (v := (I6 lh.2)) rfl) (nN (aO (bX (σ := Bool) (inl (rg 37 9)) (fun rW => [(45, (.bool (rW)))]) (fun rW w => SH w0 M BE w (hset [(1, .rd jR va a), (2, .sr eu vb0 b.frames), (3, .sr (oV bJ) vb1 b.cells), (4, .blk b1 [vb0, vb1, (I6 b.status), (I6 b.aQ)]), (5, .rd dA u4 y2.1), (6, .rd eu Bi lh.1.frames), (7, .rd (oV bJ) Ev lh.1.cells), (8, .blk b22 [Bi, Ev, (I6 lh.1.status), (I6 lh.1.aQ)])]) ∧ jN N a lh b c y2 rW = some r) ?_ ?_))))))
 rintro rW w dz ⟨h, hs⟩
 refine aH hs rfl (fun c24 hs => ?_) (fun c24 hs => ?_)
 refine nG (aa (ae (v := (.bool (false))) rfl) (nR (az (bR (v := (.bool (false))) Tryz.results11 rfl ?_))))
 obtain rfl := fI hs
 exact ⟨h.grown, rfl⟩
 refine nS (aa (ah (v := va) rfl) (aa (dh (vs := [Bi, Ev, (I6 lh.1.status), (I6 lh.1.aQ)]) h 8 rfl bV rfl rfl rfl) ?_))
 obtain ⟨y25, e26, hs⟩ := aJ hs
 refine aR Rm rfl rfl (Dr N _ _ h.lt va a (h.mM 1 rfl) lh.1 Bi Ev (h.mM 6 rfl) (h.mM 7 rfl) _ e26) ?_
 rintro _ w ⟨k30, u27, rfl, g28, g29⟩
 refine ⟨_, rfl, ?_⟩
 replace h := h.kG 9 k30 g28 g29
 refine aa (ah (v := (.tuple #[u27, (I6 y25.2)])) rfl) (aa (aY rfl rfl) (aa (aY rfl rfl) (aa (ae (v := u27) rfl) (aa (ae (v := (I6 y25.2)) rfl) (nN (aO (bX (σ := Bool) (inl (rg 52 8)) (fun x31 => [(59, (.bool (x31)))]) (fun x31 w => SH w0 M BE w (hset [(1, .rd jR va a), (2, .sr eu vb0 b.frames), (3, .sr (oV bJ) vb1 b.cells), (4, .blk b1 [vb0, vb1, (I6 b.status), (I6 b.aQ)]), (6, .rd eu Bi lh.1.frames), (7, .rd (oV bJ) Ev lh.1.cells), (8, .blk b22 [Bi, Ev, (I6 lh.1.status), (I6 lh.1.aQ)])]) ∧ jM N b lh c a x31 = some r) ?_ ?_)))))))
 rintro x31 w dz ⟨h, hs⟩
 refine aH hs rfl (fun c32 hs => ?_) (fun c32 hs => ?_)
 refine nG (aa (ae (v := (.bool (false))) rfl) (nR (az (bR (v := (.bool (false))) Tryz.results11 rfl ?_))))
 obtain rfl := fI hs
 exact ⟨h.grown, rfl⟩
 refine aI (ak (aO (nG (aa (ag nV rfl) (aa (aA h 4 rfl aU rfl rfl) (aa (iP rfl rfl) (nN (aH hs rfl (fun c33 hs => ?_) (fun c33 hs => ?_)))))))))
 refine nG (aa (ag nV rfl) (aa (aA h 4 rfl aU rfl rfl) (aa (ag nV rfl) (aa (aA h 8 rfl aU rfl rfl) (aa (bD rfl rfl) (aa (ah (v := (.bool (decide ((b.status : Int) = lh.1.status)))) rfl) (aC rfl rfl (fun q => ag wC rfl) (aC rfl rfl (fun q => aA h 4 rfl aU (dE q) rfl) (aC rfl rfl (fun q => ag wC rfl) (aC rfl rfl (fun q => aA h 8 rfl aU (dE q) rfl) (aC rfl rfl (fun q => bD (dE q) (dE q)) (aa (gP rfl rfl nQ) (aa (ae (v := (.bool ((decide ((b.status : Int) = lh.1.status) && decide ((b.aQ : Int) = lh.1.aQ))))) rfl) (nR (az (bR (v := (.bool ((decide ((b.status : Int) = lh.1.status) && decide ((b.aQ : Int) = lh.1.aQ))))) Tryz.results11 rfl ?_))))))))))))))))
 obtain rfl := fI hs
 exact ⟨h.grown, rfl⟩
 refine nS (aa (ah (v := (I6 c)) rfl) ?_)
 obtain ⟨y34, e35, hs⟩ := aJ hs
 refine aR fnOk16 rfl rfl (Ih _ _ h.lt c 500 _ e35) ?_
 rintro _ w ⟨Yt, rfl⟩
 refine ⟨_, rfl, ?_⟩
 replace h := h.grow Yt
 refine aa (ae (v := (I6 y34)) rfl) (nJ (aa (ah (v := va) rfl) (aa (dh (vs := [vb0, vb1, (I6 b.status), (I6 b.aQ)]) h 4 rfl bV rfl rfl rfl) (aa (ah (v := (I6 y34)) rfl) ?_))))
 obtain ⟨Db, e38, hs⟩ := aJ hs
 refine aR V4 rfl rfl (Pk N _ _ h.lt va a (h.fM 1 rfl) b vb0 vb1 (h.iM 2 rfl) (h.iM 3 rfl) y34 _ e38) ?_
 rintro _ w ⟨k46, QV, TL, Ud, rfl, g40, g42, g44, g45⟩
 refine ⟨_, rfl, ?_⟩
 replace h := h.kG 12 k46 g44 g45
 replace h := h.bM 10 g40.upO
 replace h := h.bM 11 g42.upO.up
 refine aa (ah (v := (.tuple #[(.agg #[QV, TL, (I6 Db.1.status), (I6 Db.1.aQ)]), Ud, (I6 Db.2.2.1), (I6 Db.2.2.2)])) rfl) (aa (aY rfl rfl) (aa (aY rfl rfl) (aa (aY rfl rfl) (aa (aY rfl rfl) (bO h 13 bV fun w b47 h => dn (vs := [QV, TL, (I6 Db.1.status), (I6 Db.1.aQ)]) h 13 [QV, TL, (I6 Db.1.status), (I6 Db.1.aQ)] rfl bV rfl rfl rfl rfl rfl (ai (h.fM 10 rfl).one (ai (h.fM 11 rfl).one (ai rfl (ai rfl aT)))) fun w h => aa (ae (v := Ud) rfl) (aa (ae (v := (I6 Db.2.2.1)) rfl) (aa (ae (v := (I6 Db.2.2.2)) rfl) (nJ (aa (ah (v := va) rfl) (aa (dh (vs := [Bi, Ev, (I6 lh.1.status), (I6 lh.1.aQ)]) h 8 rfl bV rfl rfl rfl) (aa (ah (v := (I6 y34)) rfl) ?_)))))))))))
 obtain ⟨rR, e49, hs⟩ := aJ hs
 refine aR V4 rfl rfl (Pk N _ _ h.lt va a (h.fM 1 rfl) lh.1 Bi Ev (h.mM 6 rfl) (h.mM 7 rfl) y34 _ e49) ?_
 rintro _ w ⟨k57, u50, Yr, WY, rfl, g51, g53, g55, g56⟩
 refine ⟨_, rfl, ?_⟩
 replace h := h.kG 16 k57 g55 g56
 replace h := h.bM 14 g51.upO
 replace h := h.bM 15 g53.upO.up
 refine aa (ah (v := (.tuple #[(.agg #[u50, Yr, (I6 rR.1.status), (I6 rR.1.aQ)]), WY, (I6 rR.2.2.1), (I6 rR.2.2.2)])) rfl) (aa (aY rfl rfl) (aa (aY rfl rfl) (aa (aY rfl rfl) (aa (aY rfl rfl) (bO h 17 bV fun w b58 h => dn (vs := [u50, Yr, (I6 rR.1.status), (I6 rR.1.aQ)]) h 17 [u50, Yr, (I6 rR.1.status), (I6 rR.1.aQ)] rfl bV rfl rfl rfl rfl rfl (ai (h.fM 14 rfl).one (ai (h.fM 15 rfl).one (ai rfl (ai rfl aT)))) fun w h => aa (ae (v := WY) rfl) (aa (ae (v := (I6 rR.2.2.1)) rfl) (aa (ae (v := (I6 rR.2.2.2)) rfl) (nN (aO (Bw mixed h fun w h => dD 0 (aD.refl BE _) rfl aj (by kernel_rfl) (by kernel_rfl) (by kernel_rfl) (fun w hk => ah (v := (I6 Db.2.2.2)) rfl) (dD 1 (aD.refl BE _) rfl aj (by kernel_rfl) (by kernel_rfl) (by kernel_rfl) (fun w hk => bD rfl rfl) (dD 2 (aD.refl BE _) rfl aj (by kernel_rfl) (by kernel_rfl) (by kernel_rfl) (fun w hk => ah (v := (.bool (decide ((Db.2.2.2 : Int) = 0)))) rfl) (jL (b := decide ((Db.2.2.2 : Int) = 0)) hs (fun JN hs => ?_) (fun JN hs => ?_))))))))))))))
 refine dD 3 (aD.refl BE _) rfl (mH rfl (cB JN)) (by kernel_rfl) (by kernel_rfl) (by kernel_rfl) (fun w hk => ah (v := (I6 rR.2.2.2)) rfl) (dD 4 (aD.refl BE _) rfl (mH rfl (cB JN)) (by kernel_rfl) (by kernel_rfl) (by kernel_rfl) (fun w hk => bD rfl rfl) (dD 5 (aD.refl BE _) rfl aj (by kernel_rfl) (by kernel_rfl) (by kernel_rfl) (fun w hk => dJ (b := true) (v := (.bool (decide ((rR.2.2.2 : Int) = 0)))) (cB JN) rfl) (dD 6 (aD.refl BE _) rfl aj (by kernel_rfl) (by kernel_rfl) (by kernel_rfl) (fun w hk => ah (v := (.bool (decide ((rR.2.2.2 : Int) = 0)))) rfl) (jL (b := decide ((rR.2.2.2 : Int) = 0)) hs (fun Xd hs => ?_) (fun Xd hs => ?_)))))
 refine dD 7 (aD.refl BE _) rfl (mH rfl (cB Xd)) (by kernel_rfl) (by kernel_rfl) (by kernel_rfl) (fun w hk => ah (v := (I6 Db.2.2.1)) rfl) (dD 8 (aD.refl BE _) rfl (mH rfl (cB Xd)) (by kernel_rfl) (by kernel_rfl) (by kernel_rfl) (fun w hk => ah (v := (I6 rR.2.2.1)) rfl) (dD 9 (aD.refl BE _) rfl (mH rfl (cB Xd)) (by kernel_rfl) (by kernel_rfl) (by kernel_rfl) (fun w hk => bD rfl rfl) (dD 10 (aD.refl BE _) rfl aj (by kernel_rfl) (by kernel_rfl) (by kernel_rfl) (fun w hk => dJ (b := true) (v := (.bool (decide ((Db.2.2.1 : Int) = rR.2.2.1)))) (cB Xd) rfl) (dD 11 (aD.refl BE _) rfl aj (by kernel_rfl) (by kernel_rfl) (by kernel_rfl) (fun w hk => ah (v := (.bool (decide ((Db.2.2.1 : Int) = rR.2.2.1)))) rfl) (jL (b := decide ((Db.2.2.1 : Int) = rR.2.2.1)) hs (fun TM hs => ?_) (fun TM hs => ?_))))))
 refine dD 12 (aD.refl BE _) rfl (mH rfl (cB TM)) (by kernel_rfl) (by kernel_rfl) (by kernel_rfl) (fun w hk => ah (v := Ud) rfl) (dD 13 (aD.refl BE _) rfl (mH rfl (cB TM)) (by kernel_rfl) (by kernel_rfl) (by kernel_rfl) (fun w hk => ah (v := WY) rfl) ?_)
 obtain ⟨ws63, ws63e⟩ : ∃ x, x = w := ⟨_, rfl⟩
 have Iu : Grow ws63 w := ws63e ▸ aD.refl BE w
 refine IA ws63e.symm (qH 14 (by kernel_rfl) rfl (mH rfl (cB TM)) ?_)
 obtain ⟨Be, U1, hs⟩ := aJ hs
 refine aR V3 rfl rfl (yQ _ _ h.lt Ud Db.2.1 (h.dG 12 rfl) WY rR.2.1 (h.dG 16 rfl) _ U1) ?_
 rintro _ w ⟨MC, rfl⟩
 refine ⟨_, rfl, ?_⟩
 replace h := h.grow MC
 replace Iu := Iu.trans MC
 refine ay (kQ Iu (uK 15 Iu rfl (by kernel_rfl) (fun w hk => dJ (b := true) (v := (.bool (Be))) (cB TM) rfl) (uK 16 Iu rfl (by kernel_rfl) (fun w hk => ah (v := (.bool (Be))) rfl) (jL (b := Be) hs (fun yA hs => ?_) (fun yA hs => ?_)))))
 refine RZ Iu ?_
 obtain ⟨RA, PU⟩ : ∃ x, x = w := ⟨_, rfl⟩
 have hgq59x17_2 : Grow RA w := PU ▸ aD.refl _ _
 refine dD 17 (aD.refl BE _) rfl (mH rfl (cB yA)) (by kernel_rfl) (by kernel_rfl) (by kernel_rfl) (fun w hk => have h := h.grow hk; dh (vs := [QV, TL, (I6 Db.1.status), (I6 Db.1.aQ)]) h 13 rfl bV rfl rfl rfl) (dD 19 (aD.refl BE _) rfl (mH rfl (cB yA)) (by kernel_rfl) (by kernel_rfl) (by kernel_rfl) (fun w hk => have h := h.grow hk; dh (vs := [u50, Yr, (I6 rR.1.status), (I6 rR.1.aQ)]) h 17 rfl bV rfl rfl rfl) ?_)
 obtain ⟨ws66, ws66e⟩ : ∃ x, x = w := ⟨_, rfl⟩
 have KM : Grow ws66 w := ws66e ▸ aD.refl BE w
 refine IA ws66e.symm (qH 18 (by kernel_rfl) rfl (mH rfl (cB yA)) ?_)
 obtain ⟨Bf, U2, hs⟩ := aJ hs
 refine aR GI rfl rfl (vS N _ _ h.lt Db.1 QV TL (h.mM 10 rfl) (h.mM 11 rfl) _ U2) ?_
 rintro _ w ⟨ME, MF, MG, RB, RD, rfl, U3, U4⟩
 refine ⟨_, rfl, ?_⟩
 replace h := h.JA 234 (C := (cU MF MG Bf.frames RB Bf.cells RD)) ME ⟨⟨⟨trivial, trivial⟩, trivial⟩, trivial⟩ U3 U4
 replace h := h.bN 234 237 (by decide) rfl rfl
 replace h := h.bN 234 236 (by decide) rfl rfl
 replace h := h.bN 234 235 (by decide) rfl rfl
 replace KM := KM.trans ME
 refine ay (kQ KM (qH 20 (by kernel_rfl) rfl (mH rfl (cB yA)) ?_))
 obtain ⟨Bg, U5, hs⟩ := aJ hs
 refine aR GI rfl rfl (vS N _ _ h.lt rR.1 u50 Yr (h.mM 14 rfl) (h.mM 15 rfl) _ U5) ?_
 rintro _ w ⟨MH, MI, MJ, RF, RG, rfl, U6, U7⟩
 refine ⟨_, rfl, ?_⟩
 replace h := h.JA 258 (C := (cU MI MJ Bg.frames RF Bg.cells RG)) MH ⟨⟨⟨trivial, trivial⟩, trivial⟩, trivial⟩ U6 U7
 replace h := h.bN 258 261 (by decide) rfl rfl
 replace h := h.bN 258 260 (by decide) rfl rfl
 replace h := h.bN 258 259 (by decide) rfl rfl
 replace KM := KM.trans MH
 refine ay (kQ KM (qH 21 (by kernel_rfl) rfl (mH rfl (cB yA)) ?_))
 obtain ⟨Bh, U8, hs⟩ := aJ hs
 refine aR Ni rfl rfl (DY _ BE (fun _ h => h.elim) Bf MF MG (h.xx (N := bU) (R' := eu) 234 235 rfl rfl (by decide) rfl vP) (h.xx (N := (eT Val)) (R' := (oV bJ)) 236 237 rfl rfl (by decide) rfl BB) Bg MI MJ (h.xx (N := bU) (R' := eu) 258 259 rfl rfl (by decide) rfl vP) (h.xx (N := (eT Val)) (R' := (oV bJ)) 260 261 rfl rfl (by decide) rfl BB) _ U8) ?_
 rintro _ w ⟨MK, rfl⟩
 refine ⟨_, rfl, ?_⟩
 replace h := h.grow MK
 replace KM := KM.trans MK
 refine ay (kQ KM (uK 22 KM rfl (by kernel_rfl) (fun w hk => dJ (b := true) (v := (.bool (Bh))) (cB yA) rfl) (uK 23 KM rfl (by kernel_rfl) (fun w hk => ae (v := (.bool (Bh))) rfl) (ru (by kernel_rfl) (ak (vM (bR (v := (.bool (Bh))) Tryz.results11 rfl ?_)))))))
 obtain rfl := fI hs
 exact ⟨h.grown, rfl⟩
 refine dW 17 Iu rfl (dw (b' := false) rfl (cB yA) rfl) (by kernel_rfl) (by kernel_rfl) (by kernel_rfl) (dW 18 Iu rfl (dw (b' := false) rfl (cB yA) rfl) (by kernel_rfl) (by kernel_rfl) (by kernel_rfl) (dW 19 Iu rfl (dw (b' := false) rfl (cB yA) rfl) (by kernel_rfl) (by kernel_rfl) (by kernel_rfl) (dW 20 Iu rfl (dw (b' := false) rfl (cB yA) rfl) (by kernel_rfl) (by kernel_rfl) (by kernel_rfl) (dW 21 Iu rfl (dw (b' := false) rfl (cB yA) rfl) (by kernel_rfl) (by kernel_rfl) (by kernel_rfl) (uK 22 Iu rfl (by kernel_rfl) (fun w hk => dJ (b := false) (v := (.bool (false))) (cB yA) rfl) (uK 23 Iu rfl (by kernel_rfl) (fun w hk => ae (v := (.bool (false))) rfl) (ru (by kernel_rfl) (ak (vM (bR (v := (.bool (false))) Tryz.results11 rfl ?_))))))))))
 obtain rfl := fI hs
 exact ⟨h.grown, rfl⟩
 refine dW 12 (aD.refl BE _) rfl (dw (b' := false) rfl (cB TM) rfl) (by kernel_rfl) (by kernel_rfl) (by kernel_rfl) (dW 13 (aD.refl BE _) rfl (dw (b' := false) rfl (cB TM) rfl) (by kernel_rfl) (by kernel_rfl) (by kernel_rfl) (dW 14 (aD.refl BE _) rfl (dw (b' := false) rfl (cB TM) rfl) (by kernel_rfl) (by kernel_rfl) (by kernel_rfl) (dD 15 (aD.refl BE _) rfl aj (by kernel_rfl) (by kernel_rfl) (by kernel_rfl) (fun w hk => dJ (b := false) (v := (.bool (false))) (cB TM) rfl) (dD 16 (aD.refl BE _) rfl aj (by kernel_rfl) (by kernel_rfl) (by kernel_rfl) (fun w hk => ah (v := (.bool (false))) rfl) (dW 17 (aD.refl BE _) rfl (dw (b' := false) rfl rfl rfl) (by kernel_rfl) (by kernel_rfl) (by kernel_rfl) (dW 18 (aD.refl BE _) rfl (dw (b' := false) rfl rfl rfl) (by kernel_rfl) (by kernel_rfl) (by kernel_rfl) (dW 19 (aD.refl BE _) rfl (dw (b' := false) rfl rfl rfl) (by kernel_rfl) (by kernel_rfl) (by kernel_rfl) (dW 20 (aD.refl BE _) rfl (dw (b' := false) rfl rfl rfl) (by kernel_rfl) (by kernel_rfl) (by kernel_rfl) (dW 21 (aD.refl BE _) rfl (dw (b' := false) rfl rfl rfl) (by kernel_rfl) (by kernel_rfl) (by kernel_rfl) (dD 22 (aD.refl BE _) rfl aj (by kernel_rfl) (by kernel_rfl) (by kernel_rfl) (fun w hk => dJ (b := false) (v := (.bool (false))) rfl rfl) (dD 23 (aD.refl BE _) rfl aj (by kernel_rfl) (by kernel_rfl) (by kernel_rfl) (fun w hk => ae (v := (.bool (false))) rfl) (ru (by kernel_rfl) (ak (vM (bR (v := (.bool (false))) Tryz.results11 rfl ?_)))))))))))))))
 obtain rfl := fI hs
 exact ⟨h.grown, rfl⟩
 refine dW 7 (aD.refl BE _) rfl (dw (b' := false) rfl (cB Xd) rfl) (by kernel_rfl) (by kernel_rfl) (by kernel_rfl) (dW 8 (aD.refl BE _) rfl (dw (b' := false) rfl (cB Xd) rfl) (by kernel_rfl) (by kernel_rfl) (by kernel_rfl) (dW 9 (aD.refl BE _) rfl (dw (b' := false) rfl (cB Xd) rfl) (by kernel_rfl) (by kernel_rfl) (by kernel_rfl) (dD 10 (aD.refl BE _) rfl aj (by kernel_rfl) (by kernel_rfl) (by kernel_rfl) (fun w hk => dJ (b := false) (v := (.bool (false))) (cB Xd) rfl) (dD 11 (aD.refl BE _) rfl aj (by kernel_rfl) (by kernel_rfl) (by kernel_rfl) (fun w hk => ah (v := (.bool (false))) rfl) (dW 12 (aD.refl BE _) rfl (dw (b' := false) rfl rfl rfl) (by kernel_rfl) (by kernel_rfl) (by kernel_rfl) (dW 13 (aD.refl BE _) rfl (dw (b' := false) rfl rfl rfl) (by kernel_rfl) (by kernel_rfl) (by kernel_rfl) (dW 14 (aD.refl BE _) rfl (dw (b' := false) rfl rfl rfl) (by kernel_rfl) (by kernel_rfl) (by kernel_rfl) (dD 15 (aD.refl BE _) rfl aj (by kernel_rfl) (by kernel_rfl) (by kernel_rfl) (fun w hk => dJ (b := false) (v := (.bool (false))) rfl rfl) (dD 16 (aD.refl BE _) rfl aj (by kernel_rfl) (by kernel_rfl) (by kernel_rfl) (fun w hk => ah (v := (.bool (false))) rfl) (dW 17 (aD.refl BE _) rfl (dw (b' := false) rfl rfl rfl) (by kernel_rfl) (by kernel_rfl) (by kernel_rfl) (dW 18 (aD.refl BE _) rfl (dw (b' := false) rfl rfl rfl) (by kernel_rfl) (by kernel_rfl) (by kernel_rfl) (dW 19 (aD.refl BE _) rfl (dw (b' := false) rfl rfl rfl) (by kernel_rfl) (by kernel_rfl) (by kernel_rfl) (dW 20 (aD.refl BE _) rfl (dw (b' := false) rfl rfl rfl) (by kernel_rfl) (by kernel_rfl) (by kernel_rfl) (dW 21 (aD.refl BE _) rfl (dw (b' := false) rfl rfl rfl) (by kernel_rfl) (by kernel_rfl) (by kernel_rfl) (dD 22 (aD.refl BE _) rfl aj (by kernel_rfl) (by kernel_rfl) (by kernel_rfl) (fun w hk => dJ (b := false) (v := (.bool (false))) rfl rfl) (dD 23 (aD.refl BE _) rfl aj (by kernel_rfl) (by kernel_rfl) (by kernel_rfl) (fun w hk => ae (v := (.bool (false))) rfl) (ru (by kernel_rfl) (ak (vM (bR (v := (.bool (false))) Tryz.results11 rfl ?_))))))))))))))))))))
 obtain rfl := fI hs
 exact ⟨h.grown, rfl⟩
 refine dW 3 (aD.refl BE _) rfl (dw (b' := false) rfl (cB JN) rfl) (by kernel_rfl) (by kernel_rfl) (by kernel_rfl) (dW 4 (aD.refl BE _) rfl (dw (b' := false) rfl (cB JN) rfl) (by kernel_rfl) (by kernel_rfl) (by kernel_rfl) (dD 5 (aD.refl BE _) rfl aj (by kernel_rfl) (by kernel_rfl) (by kernel_rfl) (fun w hk => dJ (b := false) (v := (.bool (false))) (cB JN) rfl) (dD 6 (aD.refl BE _) rfl aj (by kernel_rfl) (by kernel_rfl) (by kernel_rfl) (fun w hk => ah (v := (.bool (false))) rfl) (dW 7 (aD.refl BE _) rfl (dw (b' := false) rfl rfl rfl) (by kernel_rfl) (by kernel_rfl) (by kernel_rfl) (dW 8 (aD.refl BE _) rfl (dw (b' := false) rfl rfl rfl) (by kernel_rfl) (by kernel_rfl) (by kernel_rfl) (dW 9 (aD.refl BE _) rfl (dw (b' := false) rfl rfl rfl) (by kernel_rfl) (by kernel_rfl) (by kernel_rfl) (dD 10 (aD.refl BE _) rfl aj (by kernel_rfl) (by kernel_rfl) (by kernel_rfl) (fun w hk => dJ (b := false) (v := (.bool (false))) rfl rfl) (dD 11 (aD.refl BE _) rfl aj (by kernel_rfl) (by kernel_rfl) (by kernel_rfl) (fun w hk => ah (v := (.bool (false))) rfl) (dW 12 (aD.refl BE _) rfl (dw (b' := false) rfl rfl rfl) (by kernel_rfl) (by kernel_rfl) (by kernel_rfl) (dW 13 (aD.refl BE _) rfl (dw (b' := false) rfl rfl rfl) (by kernel_rfl) (by kernel_rfl) (by kernel_rfl) (dW 14 (aD.refl BE _) rfl (dw (b' := false) rfl rfl rfl) (by kernel_rfl) (by kernel_rfl) (by kernel_rfl) (dD 15 (aD.refl BE _) rfl aj (by kernel_rfl) (by kernel_rfl) (by kernel_rfl) (fun w hk => dJ (b := false) (v := (.bool (false))) rfl rfl) (dD 16 (aD.refl BE _) rfl aj (by kernel_rfl) (by kernel_rfl) (by kernel_rfl) (fun w hk => ah (v := (.bool (false))) rfl) (dW 17 (aD.refl BE _) rfl (dw (b' := false) rfl rfl rfl) (by kernel_rfl) (by kernel_rfl) (by kernel_rfl) (dW 18 (aD.refl BE _) rfl (dw (b' := false) rfl rfl rfl) (by kernel_rfl) (by kernel_rfl) (by kernel_rfl) (dW 19 (aD.refl BE _) rfl (dw (b' := false) rfl rfl rfl) (by kernel_rfl) (by kernel_rfl) (by kernel_rfl) (dW 20 (aD.refl BE _) rfl (dw (b' := false) rfl rfl rfl) (by kernel_rfl) (by kernel_rfl) (by kernel_rfl) (dW 21 (aD.refl BE _) rfl (dw (b' := false) rfl rfl rfl) (by kernel_rfl) (by kernel_rfl) (by kernel_rfl) (dD 22 (aD.refl BE _) rfl aj (by kernel_rfl) (by kernel_rfl) (by kernel_rfl) (fun w hk => dJ (b := false) (v := (.bool (false))) rfl rfl) (dD 23 (aD.refl BE _) rfl aj (by kernel_rfl) (by kernel_rfl) (by kernel_rfl) (fun w hk => ae (v := (.bool (false))) rfl) (ru (by kernel_rfl) (ak (vM ?_)))))))))))))))))))))))
 refine bR (v := (.bool (false))) Tryz.results11 rfl ?_
 obtain rfl := fI hs
 exact ⟨h.grown, rfl⟩
 refine aB (aa (ah (v := (I6 y25.2)) rfl) (aa (iP rfl rfl) (aa (ah (v := (.bool (decide ((y25.2 : Int) ≠ 0)))) rfl) (jL (b := decide ((y25.2 : Int) ≠ 0)) hs (fun QC hs => ?_) (fun QC hs => ?_)))))
 refine P9 rfl (cB QC) rfl (P9 rfl (cB QC) rfl (P9 rfl (cB QC) rfl (P9 rfl (cB QC) rfl (aa (dJ (b := true) (v := (.bool (true))) (cB QC) rfl) (ay (au ?_))))))
 exact bP true ⟨h.cn _, hs⟩
 refine dX rfl (cB QC) (aa (ah (v := u4) rfl) (dX rfl (cB QC) (aa (ah (v := u27) rfl) (dX rfl (cB QC) ?_))))
 obtain ⟨BM, e70, hs⟩ := aJ hs
 refine aR V3 rfl rfl (yQ _ _ h.lt u4 y2.1 (h.mM 5 rfl) u27 y25.1 (h.dG 9 rfl) _ e70) ?_
 rintro _ w ⟨k71, rfl⟩
 refine ⟨_, rfl, ?_⟩
 replace h := h.grow k71
 refine dX rfl (cB QC) (aa (gQ rfl) (aa (dJ (b := false) (v := (.bool ((!BM)))) (cB QC) rfl) (ay (au ?_))))
 exact bP (!BM) ⟨h.cn _, hs⟩
 refine Bw mixed h fun w h => dD 0 (aD.refl BE _) rfl aj (by kernel_rfl) (by kernel_rfl) (by kernel_rfl) (fun w hk => ah (v := (I6 lh.2)) rfl) (dD 1 (aD.refl BE _) rfl aj (by kernel_rfl) (by kernel_rfl) (by kernel_rfl) (fun w hk => iP rfl rfl) (dD 2 (aD.refl BE _) rfl aj (by kernel_rfl) (by kernel_rfl) (by kernel_rfl) (fun w hk => ah (v := (.bool (decide ((lh.2 : Int) ≠ 0)))) rfl) (jL (b := decide ((lh.2 : Int) ≠ 0)) hs (fun OC hs => ?_) (fun OC hs => ?_))))
 refine dW 3 (aD.refl BE _) rfl (dw (b' := true) rfl (cB OC) rfl) (by kernel_rfl) (by kernel_rfl) (by kernel_rfl) (dW 4 (aD.refl BE _) rfl (dw (b' := true) rfl (cB OC) rfl) (by kernel_rfl) (by kernel_rfl) (by kernel_rfl) (dW 5 (aD.refl BE _) rfl (dw (b' := true) rfl (cB OC) rfl) (by kernel_rfl) (by kernel_rfl) (by kernel_rfl) (dW 6 (aD.refl BE _) rfl (dw (b' := true) rfl (cB OC) rfl) (by kernel_rfl) (by kernel_rfl) (by kernel_rfl) (dW 7 (aD.refl BE _) rfl (dw (b' := true) rfl (cB OC) rfl) (by kernel_rfl) (by kernel_rfl) (by kernel_rfl) (dD 8 (aD.refl BE _) rfl aj (by kernel_rfl) (by kernel_rfl) (by kernel_rfl) (fun w hk => dJ (b := true) (v := (.bool (true))) (cB OC) rfl) (ru (by kernel_rfl) (au ?_)))))))
 exact bP true ⟨h.cn _, hs⟩
 refine dD 3 (aD.refl BE _) rfl (mH rfl (cB OC)) (by kernel_rfl) (by kernel_rfl) (by kernel_rfl) (fun w hk => have h := h.grow hk; dh (vs := [Bi, Ev, (I6 lh.1.status), (I6 lh.1.aQ)]) h 8 rfl bV rfl rfl rfl) (dD 4 (aD.refl BE _) rfl (mH rfl (cB OC)) (by kernel_rfl) (by kernel_rfl) (by kernel_rfl) (fun w hk => have h := h.grow hk; dh (vs := [vb0, vb1, (I6 b.status), (I6 b.aQ)]) h 4 rfl bV rfl rfl rfl) ?_)
 obtain ⟨ws74, ws74e⟩ : ∃ x, x = w := ⟨_, rfl⟩
 have PV : Grow ws74 w := ws74e ▸ aD.refl BE w
 refine IA ws74e.symm (qH 5 (by kernel_rfl) rfl (mH rfl (cB OC)) ?_)
 obtain ⟨Dt, Yi, hs⟩ := aJ hs
 refine aR GI rfl rfl (vS N _ _ h.lt b vb0 vb1 (h.iM 2 rfl) (h.iM 3 rfl) _ Yi) ?_
 rintro _ w ⟨PW, PX, PY, U9, Va, rfl, Yj, Yk⟩
 refine ⟨_, rfl, ?_⟩
 replace h := h.JA 378 (C := (cU PX PY Dt.frames U9 Dt.cells Va)) PW ⟨⟨⟨trivial, trivial⟩, trivial⟩, trivial⟩ Yj Yk
 replace h := h.bN 378 381 (by decide) rfl rfl
 replace h := h.bN 378 380 (by decide) rfl rfl
 replace h := h.bN 378 379 (by decide) rfl rfl
 replace PV := PV.trans PW
 refine ay (kQ PV (qH 6 (by kernel_rfl) rfl (mH rfl (cB OC)) ?_))
 obtain ⟨Gp, Yl, hs⟩ := aJ hs
 refine aR Ni rfl rfl (DY _ BE (fun _ h => h.elim) lh.1 Bi Ev (fP.VV (h.fM 6 rfl)) (fP.VV (h.fM 7 rfl)) Dt PX PY (h.xx (N := bU) (R' := eu) 378 379 rfl rfl (by decide) rfl vP) (h.xx (N := (eT Val)) (R' := (oV bJ)) 380 381 rfl rfl (by decide) rfl BB) _ Yl) ?_
 rintro _ w ⟨PZ, rfl⟩
 refine ⟨_, rfl, ?_⟩
 replace h := h.grow PZ
 replace PV := PV.trans PZ
 refine ay (kQ PV (dD 7 PV rfl (mH rfl (cB OC)) (by kernel_rfl) (by kernel_rfl) (by kernel_rfl) (fun w hk => gQ rfl) (uK 8 PV rfl (by kernel_rfl) (fun w hk => dJ (b := false) (v := (.bool ((!Gp)))) (cB OC) rfl) (ru (by kernel_rfl) (au ?_)))))
 exact bP (!Gp) ⟨h.cn _, hs⟩
end
end Go.Proofs.YtfclkapelkhlpaaGreatDoor
namespace Go.Proofs.YtfclkapelkhlpaaGreatDoor
open Go Go.Proofs Go.LX
theorem Vb : mE NN = some true := by
  unfold mE
  rw [UE]
  kernel_rfl
end Go.Proofs.YtfclkapelkhlpaaGreatDoor
namespace Go.Proofs.YtfclkapelkhlpaaGreatDoor
open Go Go.Proofs Go.LX
def ML (l : List Val) : List Int := l.flatMap fun v => [v.kind, v.n]
def rowP (l : List Val) : List Int := (l.length : Int) :: ML l
def Vd (f : LX.Frame) : List Int := f.proc :: f.at_ :: f.kP :: rowP f.regs
def Gq (s : LX.State) : List Int := s.status :: s.aQ :: (s.frames.length : Int) :: (s.frames.flatMap Vd ++ (s.cells.length : Int) :: s.cells.flatMap rowP)
def MM (α : Type) := List Int → Option (α × List Int)
structure Reads {α : Type} (R : MM α) : Prop where
  out : ∀ l x r, R l = some (x, r) → ∃ u, l = u ++ r ∧ (∀ t, R (u ++ t) = some (x, t)) ∧ ∀ v w, v ++ w = u → w ≠ [] → R v = none
def qh {α : Type} (x : α) : MM α := fun l => some (x, l)
def eQ {α β : Type} (R : MM α) (f : α → MM β) : MM β := fun l => (R l).bind fun q => f q.1 q.2
def zC : MM Int := fun l => match l with
  | [] => none
  | x :: r => some (x, r)
def mF (m : Int) : MM Nat := fun l => match l with
  | [] => none
  | x :: r => if 0 ≤ x ∧ x ≤ m then some (x.toNat, r) else none
def iO {α : Type} (R : MM α) : Nat → MM (List α)
  | 0 => qh []
  | n + 1 => eQ R fun x => eQ (iO R n) fun l => qh (x :: l)
theorem Reads.pure {α : Type} (x : α) : Reads (qh x) := ⟨fun l y r h => by
  cases h
  exact ⟨[], rfl, fun t => rfl, fun v w h hw => absurd (List.append_eq_nil_iff.1 h).2 hw⟩⟩
theorem Reads.many (m : Int) : Reads (mF m) := ⟨fun l y r h => by
  cases l with
  | nil => cases h
  | cons a l =>
    unfold mF at h
    simp only at h
    by_cases hm : 0 ≤ a ∧ a ≤ m
    · rw [if_pos hm] at h
      cases h
      exact ⟨[a], rfl, fun t => by show (if 0 ≤ a ∧ a ≤ m then some (a.toNat, t) else none) = _; rw [if_pos hm], fun v w h hw => by
        cases v with
        | nil => rfl
        | cons b v => simp at h; exact absurd h.2.2 hw⟩
    · rw [if_neg hm] at h; cases h⟩
theorem Reads.bind {α β : Type} {R : MM α} {f : α → MM β} (hR : Reads R) (hf : ∀ x, Reads (f x)) : Reads (eQ R f) := ⟨fun l y r h => by
  unfold eQ at h
  cases e : R l with
  | none => rw [e] at h; cases h
  | some q =>
    obtain ⟨x, l2⟩ := q
    rw [e, Option.bind_some] at h
    obtain ⟨u, rfl, hu, hn⟩ := hR.out l x l2 e
    obtain ⟨v, rfl, hv, hm⟩ := (hf x).out l2 y r h
    refine ⟨u ++ v, by simp, fun t => ?_, fun p q hp hq => ?_⟩
    · show (R (u ++ v ++ t)).bind _ = _
      rw [List.append_assoc, hu, Option.bind_some, hv]
    · show (R p).bind _ = _
      rcases List.append_eq_append_iff.1 hp with ⟨a, rfl, rfl⟩ | ⟨a, rfl, rfl⟩
      · by_cases ha : a = []
        · subst ha
          rw [List.append_nil] at hu
          have h0 := hu []
          rw [List.append_nil] at h0
          have : R p = some (x, []) := by simpa using h0
          rw [this, Option.bind_some]
          exact hm [] v rfl (by simpa using hq)
        · rw [hn p a rfl ha]; rfl
      · rw [hu, Option.bind_some]
        exact hm a q rfl hq⟩
def NZ : MM Val := eQ zC fun k => eQ zC fun n => qh ⟨k, n⟩
def wJ (m : Int) : MM (List Val) := eQ (mF m) fun n => iO NZ n
def Iw : MM LX.Frame := eQ zC fun p => eQ zC fun a => eQ zC fun t => eQ (wJ 40) fun r => qh ⟨p, a, r, t⟩
def KN : MM LX.State := eQ zC fun s => eQ zC fun w => eQ (mF 10) fun n => eQ (iO Iw n) fun f => eQ (mF 24) fun k => eQ (iO (wJ 4) k) fun c => qh ⟨f, c, s, w⟩
theorem Cf {α : Type} {R : MM α} {g : α → List Int} : ∀ (l : List α) (t : List Int), (∀ x ∈ l, ∀ t, R (g x ++ t) = some (x, t)) → iO R l.length (l.flatMap g ++ t) = some (l, t)
  | [], t, _ => rfl
  | x :: l, t, h => by
    show (R (g x ++ l.flatMap g ++ t)).bind _ = _
    rw [List.append_assoc, h x (by simp), Option.bind_some]
    show (iO R l.length (l.flatMap g ++ t)).bind _ = _
    rw [Cf l t (fun y hy => h y (List.mem_cons_of_mem _ hy)), Option.bind_some]
    rfl
theorem P5 {m : Nat} (l : List Val) (h : l.length ≤ m) (t : List Int) : wJ m (rowP l ++ t) = some (l, t) := by
  unfold wJ eQ rowP mF
  simp only [List.cons_append]
  rw [if_pos (by omega), Option.bind_some, Int.toNat_natCast]
  exact Cf l t (fun v _ t => rfl)
theorem rFr_fr (f : LX.Frame) (h : f.regs.length ≤ 40) (t : List Int) : Iw (Vd f ++ t) = some (f, t) := by
  show ((wJ (40 : Nat) (rowP f.regs ++ t)).bind fun q => qh (⟨f.proc, f.at_, q.1, f.kP⟩ : LX.Frame) q.2) = _
  rw [P5 f.regs h]; rfl
theorem Ym {s : LX.State} (h : Small s) (t : List Int) : KN (Gq s ++ t) = some (s, t) := by
  have h1 := h.frames
  have h2 := h.cells
  show ((mF 10 ((s.frames.length : Int) :: ((s.frames.flatMap Vd ++ (s.cells.length : Int) :: s.cells.flatMap rowP) ++ t))).bind fun q => (iO Iw q.1 q.2).bind fun q2 => (mF 24 q2.2).bind fun q3 => (iO (wJ 4) q3.1 q3.2).bind fun q4 => qh (⟨q2.1, q4.1, s.status, s.aQ⟩ : LX.State) q4.2) = _
  rw [show mF 10 ((s.frames.length : Int) :: ((s.frames.flatMap Vd ++ (s.cells.length : Int) :: s.cells.flatMap rowP) ++ t)) = some (s.frames.length, (s.frames.flatMap Vd ++ (s.cells.length : Int) :: s.cells.flatMap rowP) ++ t) by
    show (if _ then _ else _) = _
    rw [if_pos (by omega), Int.toNat_natCast], Option.bind_some]
  simp only
  rw [List.append_assoc, Cf s.frames _ (fun f hf t => rFr_fr f (h.regs f hf) t), Option.bind_some]
  simp only [List.cons_append]
  rw [show mF 24 ((s.cells.length : Int) :: (s.cells.flatMap rowP ++ t)) = some (s.cells.length, s.cells.flatMap rowP ++ t) by
    show (if _ then _ else _) = _
    rw [if_pos (by omega), Int.toNat_natCast], Option.bind_some]
  simp only
  rw [Cf (R := wJ 4) (g := rowP) s.cells _ (fun c hc t => P5 (m := 4) c (h.fields c hc) t), Option.bind_some]
  rfl
theorem Iy (l : List Val) : (ML l).length = 2 * l.length := by
  induction l with
  | nil => rfl
  | cons v l ih => show ([v.kind, v.n] ++ ML l).length = _; simp [ih]; omega
theorem P6 (m : Nat) : ∀ l : List (List Val), (∀ c ∈ l, c.length ≤ m) → (l.flatMap rowP).length ≤ (2 * m + 1) * l.length
  | [], _ => by simp
  | c :: l, h => by
    have h1 := h c (by simp)
    have h2 := P6 m l (fun d hd => h d (List.mem_cons_of_mem _ hd))
    rw [List.flatMap_cons, List.length_append]
    unfold rowP
    rw [List.length_cons, Iy, List.length_cons, Nat.mul_succ]
    unfold rowP at h2
    omega
theorem N7 : ∀ l : List LX.Frame, (∀ f ∈ l, f.regs.length ≤ 40) → (l.flatMap Vd).length ≤ 84 * l.length
  | [], _ => by simp
  | f :: l, h => by
    have h1 := h f (by simp)
    have h2 := N7 l (fun d hd => h d (List.mem_cons_of_mem _ hd))
    rw [List.flatMap_cons, List.length_append]
    unfold Vd rowP
    simp only [List.length_cons, Iy]
    unfold Vd rowP at h2
    omega
theorem P7 {s : LX.State} (h : Small s) : (Gq s).length ≤ 1060 := by
  have h1 := P6 4 s.cells h.fields
  have h2 := N7 s.frames h.regs
  have h3 := h.frames
  have h4 := h.cells
  unfold Gq
  simp only [List.length_cons, List.length_append]
  omega
end Go.Proofs.YtfclkapelkhlpaaGreatDoor
namespace Go.Proofs.YtfclkapelkhlpaaGreatDoor
open Go Go.Proofs Go.LX
theorem P8 {α ρ : Type} {body : Int → List Int → (List Int → Option ρ) → Option ρ} {K : List Int → Option ρ} {g : α → List Int} {l : List α} {m B : Nat} (hg : ∀ x ∈ l, (g x).length ≤ m)
    (hb : ∀ (i : Nat) (h : i < l.length) acc nx, acc.length ≤ B + m * i → body (i : Int) acc nx = nx (acc ++ g l[i])) :
    ∀ (k i : Nat) (acc : List Int), i + k = l.length → acc.length ≤ B + m * i → upto body K (i : Int) k acc = K (acc ++ (l.drop i).flatMap g)
  | 0, i, acc, h, _ => by rw [List.drop_eq_nil_of_le (by omega)]; simp [upto]
  | k + 1, i, acc, h, hl => by
    have hi : i < l.length := by omega
    rw [Ii, hb i hi acc _ hl, show ((i : Int) + 1) = ((i + 1 : Nat) : Int) by omega, P8 hg hb k (i + 1) _ (by omega) (by
      have := hg _ (List.getElem_mem hi)
      rw [List.length_append, Nat.mul_add]; omega), List.drop_eq_getElem_cons hi, List.flatMap_cons, List.append_assoc]
theorem MN {α ρ : Type} {body : Int → List Int → (List Int → Option ρ) → Option ρ} {K : List Int → Option ρ} {g : α → List Int} {l : List α} (m B : Nat) (hg : ∀ x ∈ l, (g x).length ≤ m)
    (hb : ∀ (i : Nat) (h : i < l.length) acc nx, acc.length ≤ B + m * i → body (i : Int) acc nx = nx (acc ++ g l[i])) (acc : List Int) (ha : acc.length ≤ B) : upto body K 0 l.length acc = K (acc ++ l.flatMap g) := by
  have := P8 (K := K) hg hb l.length 0 acc (by omega) (by omega)
  rw [List.drop_zero] at this
  exact this
theorem values_eq : ∀ (l : List Val) (acc : List Int), acc.length + 2 * l.length ≤ 50000 → uz acc l = some (acc ++ ML l)
  | [], acc, _ => by simp [uz, gT, rq, ML]
  | v :: l, acc, h => by
    simp only [List.length_cons] at h
    have ih := values_eq l (acc ++ [v.kind, v.n]) (by simp [-List.length_flatMap]; omega)
    unfold uz at ih ⊢
    rw [dO]
    generalize each rf rq l = K at ih ⊢
    unfold rf
    rw [tX (room_le (by simp [-List.length_flatMap]; omega) (by decide)), ih]
    simp [ML]
theorem SY {c : List Val} {m : Nat} (h : c.length ≤ m) : (rowP c).length ≤ 2 * m + 1 := by
  unfold rowP; rw [List.length_cons, Iy]; omega
theorem fr_len {f : LX.Frame} (h : f.regs.length ≤ 40) : (Vd f).length ≤ 84 := by
  unfold Vd
  have := SY h
  simp only [List.length_cons]; omega
theorem IU {a : List bQ} (ha : mo a) {s : LX.State} (h : sG a s) : Small (cZ s) := (Gg ha h).small ha
theorem Ve {s : LX.State} (h : Small s) : upto (vB s) (vC s) 0 ((s.frames.length : Int)).toNat [s.status, s.aQ, (s.frames.length : Int)] = some (Gq s, 0) := by
  have hF := h.frames
  have hC := h.cells
  have hl := N7 s.frames h.regs
  rw [Int.toNat_natCast, MN (g := Vd) (l := s.frames) 84 3 (fun f hf => fr_len (h.regs f hf)) (fun i hi acc nx hacc => by
    have hr := h.regs _ (List.getElem_mem hi)
    unfold vB
    rw [vO hi, bnd, tX (room_le (by simp [-List.length_flatMap]; omega) (by decide)), values_eq _ _ (by simp [-List.length_flatMap]; omega), bnd]
    unfold Vd rowP
    simp) _ (by simp)]
  unfold vC
  rw [tX (room_le (by simp [-List.length_flatMap]; omega) (by decide)), Int.toNat_natCast, MN (g := rowP) (l := s.cells) 9 1000 (fun c hc => SY (h.fields c hc)) (fun i hi acc nx hacc => by
    have hr := h.fields _ (List.getElem_mem hi)
    unfold yg
    rw [vO hi, bnd, tX (room_le (by simp [-List.length_flatMap]; omega) (by decide)), values_eq _ _ (by simp [-List.length_flatMap]; omega), bnd]
    unfold rowP
    simp) _ (by simp [-List.length_flatMap]; omega)]
  unfold yh
  have hp := P7 h
  have e : ([s.status, s.aQ, (s.frames.length : Int)] ++ s.frames.flatMap Vd ++ [(s.cells.length : Int)] ++ s.cells.flatMap rowP) = Gq s := by
    unfold Gq; simp
  rw [e, dF (by omega), cond_false]
theorem Gr (a : List bQ) (s : LX.State) {N : Nat} (hN : 100 ≤ N) : yn N a s = some (if Pt a ≠ 0 then ([], Pt a) else if Rh a s ≠ 0 then ([], Rh a s) else (Gq (cZ s), 0)) := by
  unfold yn
  rw [Dj, bnd]
  by_cases h1 : Pt a = 0
  · rw [if_neg (by omega), if_neg (by omega)]
    by_cases h2 : Rh a s = 0
    · have ha := Dh h1
      have hs := EY.1 h2
      rw [dF (by omega), cond_false, AX hN (hs.sw ha), bnd, if_neg (by omega)]
      exact Ve (IU ha hs)
    · rw [dT h2, cond_true, if_pos h2]
  · rw [if_pos h1, dT h1, cond_true, if_pos h1]
end Go.Proofs.YtfclkapelkhlpaaGreatDoor
namespace Go.Proofs.YtfclkapelkhlpaaGreatDoor
open Go Go.Proofs Go.LX
structure Rel {α : Type} (o : Option (α × List Int)) (b : Bool) (x' : α) (l' : List Int) (b' : Bool) : Prop where
  stay : b = true → b' = true
  ok : b = false → match o with
    | some (x, r) => x' = x ∧ l' = r ∧ b' = false
    | none => b' = true
theorem Rel.pure {α : Type} (x : α) (l : List Int) (b : Bool) : Rel (qh x l) b x l b := ⟨id, fun h => ⟨rfl, rfl, h⟩⟩
theorem Rel.bind {α β : Type} {R : MM α} {f : α → MM β} {l l' l'' : List Int} {b b' b'' : Bool} {x' : α} {y' : β} (h1 : Rel (R l) b x' l' b') (h2 : Rel (f x' l') b' y' l'' b'') : Rel (eQ R f l) b y' l'' b'' := by
  refine ⟨fun h => h2.stay (h1.stay h), fun h => ?_⟩
  have := h1.ok h
  unfold eQ
  cases e : R l with
  | none => rw [e] at this; exact h2.stay this
  | some q =>
    obtain ⟨x, r⟩ := q
    rw [e] at this
    obtain ⟨rfl, rfl, hb⟩ := this
    exact h2.ok hb
theorem xu (l : List Int) (b : Bool) : ∃ x l' b', gu ⟨l, b⟩ = some (x, ⟨l', b'⟩) ∧ Rel (zC l) b x l' b' := by
  unfold gu
  cases l with
  | nil => exact ⟨0, [], true, rfl, fun _ => rfl, fun _ => rfl⟩
  | cons x l =>
    simp only
    rw [dF (by simp; omega), cond_false, show idx (x :: l) 0 = some x from Zz x l, bnd, show sub? (x :: l) 1 ((x :: l).length : Int) = some l by
      have := sub_s (l := x :: l) (a := 1) (b := (x :: l).length) (by simp) (Nat.le_refl _)
      rw [List.take_length] at this
      exact this, bnd]
    exact ⟨x, l, b, rfl, id, fun h => ⟨rfl, rfl, h⟩⟩
theorem Gs (m : Nat) (l : List Int) (b : Bool) : ∃ (x : Nat) (l' : List Int) (b' : Bool), j3 ⟨l, b⟩ m = some ((x : Int), ⟨l', b'⟩) ∧ x ≤ m ∧ Rel (mF m l) b x l' b' := by
  unfold j3
  obtain ⟨x, l', b', h, hr⟩ := xu l b
  rw [h, bnd]
  simp only
  by_cases hx : 0 ≤ x ∧ x ≤ (m : Int)
  · rw [dF (by omega), dF (by omega), Bool.or_self, cond_false]
    refine ⟨x.toNat, l', b', by rw [Int.toNat_of_nonneg hx.1], by omega, hr.stay, fun hb => ?_⟩
    have := hr.ok hb
    cases l with
    | nil => exact this
    | cons y l =>
      obtain ⟨rfl, rfl, hb'⟩ := this
      rw [show mF (m : Int) (x :: l') = some (x.toNat, l') from if_pos hx]; exact ⟨rfl, rfl, hb'⟩
  · rw [show (decide (x < 0) || decide ((m : Int) < x)) = true by
      rw [Bool.or_eq_true, decide_eq_true_eq, decide_eq_true_eq]; omega, cond_true]
    refine ⟨0, l', true, rfl, by omega, fun _ => rfl, fun hb => ?_⟩
    have := hr.ok hb
    cases l with
    | nil => rfl
    | cons y l =>
      obtain ⟨rfl, rfl, hb'⟩ := this
      rw [show mF (m : Int) (x :: l') = none from if_neg hx]
theorem Eo (n : Nat) (hn : n ≤ 100) : ∀ (m M i : Nat) (acc : List Val) (l : List Int) (b : Bool), i + m = n → acc.length = i → m < M →
    ∃ vs l' b', again (gZ n) M (acc, (i : Int), l, b) = some (acc ++ vs, ⟨l', b'⟩) ∧ vs.length = m ∧ Rel (iO NZ m l) b vs l' b'
  | m, 0, i, acc, l, b, _, _, hM => by omega
  | 0, M + 1, i, acc, l, b, hi, _, _ => by
    rw [yf]
    unfold gZ
    simp only
    rw [dF (by omega), cond_false]
    exact ⟨[], l, b, by simp, rfl, Rel.pure [] l b⟩
  | m + 1, M + 1, i, acc, l, b, hi, ha, hM => by
    rw [yf]
    have ih := Eo n hn m M (i + 1)
    generalize again (gZ n) M = K at ih ⊢
    unfold gZ
    simp only
    rw [dT (by omega), cond_true]
    obtain ⟨x, l1, b1, e1, r1⟩ := xu l b
    rw [e1, bnd]
    simp only
    obtain ⟨y, l2, b2, e2, r2⟩ := xu l1 b1
    rw [e2, bnd]
    simp only
    rw [tX (room_le (by simp; omega) (by decide)), gI (by omega) (by omega)]
    obtain ⟨vs, l3, b3, e3, hl, r3⟩ := ih (acc ++ [⟨x, y⟩]) l2 b2 (by omega) (by simp; omega) (by omega)
    refine ⟨⟨x, y⟩ :: vs, l3, b3, ?_, by simp [hl], ?_⟩
    · rw [show ((i : Int) + 1) = ((i + 1 : Nat) : Int) by omega, e3]; simp
    · exact Rel.bind (Rel.bind r1 (Rel.bind r2 (Rel.pure _ _ _))) (Rel.bind r3 (Rel.pure _ _ _))
theorem KO {N n : Nat} (hn : n ≤ 100) (hN : 200 ≤ N) (l : List Int) (b : Bool) : ∃ vs l' b', mr N ⟨l, b⟩ n = some (vs, ⟨l', b'⟩) ∧ vs.length = n ∧ Rel (iO NZ n l) b vs l' b' := by
  unfold mr
  obtain ⟨vs, l', b', e, hl, hr⟩ := Eo n hn n N 0 [] l b (by omega) rfl (by omega)
  exact ⟨vs, l', b', by simpa using e, hl, hr⟩
def none0 : LX.State := ⟨[], [], 0, 0⟩
def RH (a : List bQ) (s : LX.State) : LX.State × Int :=
  if Pt a ≠ 0 then (none0, Pt a) else if Rh a s ≠ 0 then (none0, Rh a s) else if cZ s = s then (s, 0) else (none0, 4)
def D8 (a : List bQ) (l : List Int) : LX.State × Int :=
  if 1200 < l.length then (none0, 2) else match KN l with
    | some (s, []) => RH a s
    | _ => (none0, 8)
theorem un_end (a : List bQ) (s : LX.State) {N : Nat} (hN : 100 ≤ N) : ((yF a s).bind fun y168 => bif decide ((y168 : Int) ≠ 0) then some (none0, y168) else (sD N s).bind fun x => (zx x s).bind fun y => bif (!y) then some (none0, 4) else some (s, 0)) = some (RH a s) := by
  rw [Dj, bnd]
  unfold RH
  by_cases h1 : Pt a = 0
  · rw [if_neg (by omega), if_neg (by omega)]
    by_cases h2 : Rh a s = 0
    · have ha := Dh h1
      rw [dF (by omega), cond_false, AX hN ((EY.1 h2).sw ha), bnd, NS, bnd, if_neg (by omega)]
      by_cases h3 : cZ s = s
      · rw [dT h3, if_pos h3]; rfl
      · rw [dF h3, if_neg h3]; rfl
    · rw [dT h2, cond_true, if_pos h2]
  · rw [if_pos h1, dT h1, cond_true, if_pos h1]
theorem MO {N : Nat} (hN : 200 ≤ N) (qd : Int × jo) (a : List bQ) (fr : List LX.Frame) (y6 sS : Int × jo) (n : Nat) (hy : qd.1 = n) (hn : n ≤ 24) :
    ∀ (m M i : Nat) (acc : List (List Val)) (l : List Int) (b : Bool), i + m = n → acc.length = i → m < M →
    ∃ cs l' b', again (mD N qd a fr y6 sS) M ((i : Int), l, b, acc) = (bif (b' || decide ((0 : Int) < (l'.length : Int))) then some (none0, 8) else some (RH a ⟨fr, acc ++ cs, y6.1, sS.1⟩)) ∧ Rel (iO (wJ 4) m l) b cs l' b'
  | m, 0, i, acc, l, b, _, _, hM => by omega
  | 0, M + 1, i, acc, l, b, hi, _, _ => by
    rw [yf]
    unfold mD
    simp only
    rw [dF (by omega), cond_false]
    refine ⟨[], l, b, ?_, Rel.pure [] l b⟩
    rw [List.append_nil, ← un_end a ⟨fr, acc, y6.1, sS.1⟩ (N := N) (by omega)]
    rfl
  | m + 1, M + 1, i, acc, l, b, hi, ha, hM => by
    rw [yf]
    have ih := MO hN qd a fr y6 sS n hy hn m M (i + 1)
    generalize again (mD N qd a fr y6 sS) M = K at ih ⊢
    unfold mD
    simp only
    rw [dT (by omega), cond_true]
    obtain ⟨x, l1, b1, e1, hx, r1⟩ := Gs 4 l b
    rw [show ((4 : Nat) : Int) = 4 from rfl] at e1
    rw [e1, bnd]
    simp only
    obtain ⟨vs, l2, b2, e2, hv, r2⟩ := KO (N := N) (n := x) (by omega) hN l1 b1
    rw [e2, bnd]
    simp only
    rw [tX (room_le (by simp; omega) (by decide))]
    unfold yU
    rw [gI (by omega) (by omega)]
    obtain ⟨cs, l3, b3, e3, r3⟩ := ih (acc ++ [vs]) l2 b2 (by omega) (by simp; omega) (by omega)
    refine ⟨vs :: cs, l3, b3, ?_, ?_⟩
    · rw [show ((i : Int) + 1) = ((i + 1 : Nat) : Int) by omega, e3]; simp
    · exact Rel.bind (Rel.bind r1 r2) (Rel.bind r3 (Rel.pure _ _ _))
theorem RI {α β : Type} {R : MM α} {m : Nat} {G : List α → MM β} {l : List Int} : eQ (iO R (m + 1)) G l = eQ R (fun x => eQ (iO R m) fun fs => G (x :: fs)) l := by
  show ((eQ R (fun x => eQ (iO R m) fun l => qh (x :: l)) l).bind _) = _
  unfold eQ
  cases R l with
  | none => rfl
  | some q =>
    rw [Option.bind_some, Option.bind_some]
    simp only
    cases iO R m q.2 with
    | none => rfl
    | some q2 => rfl
theorem KP {N : Nat} (hN : 200 ≤ N) (y22 : Int × jo) (a : List bQ) (y6 sS : Int × jo) (n : Nat) (hy : y22.1 = n) (hn : n ≤ 10) :
    ∀ (m M i : Nat) (acc : List LX.Frame) (l : List Int) (b : Bool), i + m = n → acc.length = i → m < M →
    ∃ (s : LX.State) (l' : List Int) (b' : Bool), again (kK N y22 a y6 sS) M ((i : Int), l, b, acc) = (bif (b' || decide ((0 : Int) < (l'.length : Int))) then some (none0, 8) else some (RH a s)) ∧
      Rel (eQ (iO Iw m) (fun f => eQ (mF 24) fun k => eQ (iO (wJ 4) k) fun c => qh (⟨acc ++ f, c, y6.1, sS.1⟩ : LX.State)) l) b s l' b'
  | m, 0, i, acc, l, b, _, _, hM => by omega
  | 0, M + 1, i, acc, l, b, hi, _, _ => by
    rw [yf]
    unfold kK
    simp only
    rw [dF (by omega), cond_false]
    obtain ⟨x, l1, b1, e1, hx, r1⟩ := Gs 24 l b
    rw [show ((24 : Nat) : Int) = 24 from rfl] at e1
    rw [e1, bnd]
    simp only
    obtain ⟨cs, l2, b2, e2, r2⟩ := MO hN ((x : Int), ⟨l1, b1⟩) a acc y6 sS x rfl hx x N 0 [] l1 b1 (by omega) rfl (by omega)
    refine ⟨⟨acc ++ [], [] ++ cs, y6.1, sS.1⟩, l2, b2, ?_, ?_⟩
    · rw [List.append_nil]; exact e2
    · exact Rel.bind (Rel.pure [] l b) (Rel.bind r1 (Rel.bind r2 (Rel.pure _ _ _)))
  | m + 1, M + 1, i, acc, l, b, hi, ha, hM => by
    rw [yf]
    have ih := KP hN y22 a y6 sS n hy hn m M (i + 1)
    generalize again (kK N y22 a y6 sS) M = K at ih ⊢
    unfold kK
    simp only
    rw [dT (by omega), cond_true]
    obtain ⟨p, l1, b1, e1, r1⟩ := xu l b
    rw [e1, bnd]
    simp only
    obtain ⟨q, l2, b2, e2, r2⟩ := xu l1 b1
    rw [e2, bnd]
    simp only
    obtain ⟨t, l3, b3, e3, r3⟩ := xu l2 b2
    rw [e3, bnd]
    simp only
    obtain ⟨x, l4, b4, e4, hx, r4⟩ := Gs 40 l3 b3
    rw [show ((40 : Nat) : Int) = 40 from rfl] at e4
    rw [e4, bnd]
    simp only
    obtain ⟨vs, l5, b5, e5, hv, r5⟩ := KO (N := N) (n := x) (by omega) hN l4 b4
    rw [e5, bnd]
    simp only
    rw [tX (room_le (by simp; omega) (by decide)), gI (by omega) (by omega)]
    obtain ⟨s, l6, b6, e6, r6⟩ := ih (acc ++ [⟨p, q, vs, t⟩]) l5 b5 (by omega) (by simp; omega) (by omega)
    refine ⟨s, l6, b6, ?_, ?_⟩
    · rw [show ((i : Int) + 1) = ((i + 1 : Nat) : Int) by omega, e6]
    · have hfr : Rel (Iw l) b ⟨p, q, vs, t⟩ l5 b5 := Rel.bind r1 (Rel.bind r2 (Rel.bind r3 (Rel.bind (Rel.bind r4 r5) (Rel.pure _ _ _))))
      simp only [List.append_assoc, List.cons_append, List.nil_append] at r6
      rw [RI]
      exact Rel.bind (f := fun x => eQ (iO Iw m) fun fs => eQ (mF 24) fun k => eQ (iO (wJ 4) k) fun c => qh (⟨acc ++ x :: fs, c, y6.1, sS.1⟩ : LX.State)) hfr r6
theorem ZH {a : List bQ} {l l' : List Int} {b' : Bool} {s : LX.State} {y : Option (LX.State × Int)} (hl : ¬ 1200 < l.length) (hr : Rel (KN l) false s l' b') (h : y = (bif (b' || decide ((0 : Int) < (l'.length : Int))) then some (none0, 8) else some (RH a s))) : y = some (D8 a l) := by
  rw [h]
  unfold D8
  rw [if_neg hl]
  have := hr.ok rfl
  cases e : KN l with
  | none => rw [e] at this; simp only at this; subst this; rfl
  | some q =>
    obtain ⟨s2, r⟩ := q
    rw [e] at this
    obtain ⟨rfl, rfl, rfl⟩ := this
    cases l' with
    | nil => rfl
    | cons x l' => rw [Bool.false_or, dT (by simp), cond_true]
theorem KQ (a : List bQ) (l : List Int) {N : Nat} (hN : 200 ≤ N) : uA N a l = some (D8 a l) := by
  unfold uA
  by_cases hl : 1200 < l.length
  · rw [dT (by omega), cond_true]
    unfold D8
    rw [if_pos hl]; rfl
  · rw [dF (by omega), cond_false]
    obtain ⟨st, l1, b1, e1, r1⟩ := xu l false
    rw [e1, bnd]
    simp only
    obtain ⟨wh, l2, b2, e2, r2⟩ := xu l1 b1
    rw [e2, bnd]
    simp only
    obtain ⟨x, l3, b3, e3, hx, r3⟩ := Gs 10 l2 b2
    rw [show ((10 : Nat) : Int) = 10 from rfl] at e3
    rw [e3, bnd]
    simp only
    obtain ⟨s, l4, b4, e4, r4⟩ := KP hN ((x : Int), ⟨l3, b3⟩) a (st, ⟨l1, b1⟩) (wh, ⟨l2, b2⟩) x rfl hx x N 0 [] l3 b3 (by omega) rfl (by omega)
    exact ZH hl (Rel.bind r1 (Rel.bind r2 (Rel.bind r3 r4))) e4
end Go.Proofs.YtfclkapelkhlpaaGreatDoor
namespace Go.Proofs.YtfclkapelkhlpaaGreatDoor
open Go Go.Proofs Go.LX
section
variable {I : List Int} (hI : I.length ≤ 1200)
include hI
omit hI in
end
end Go.Proofs.YtfclkapelkhlpaaGreatDoor
namespace Go.Proofs.YtfclkapelkhlpaaGreatDoor
open Go Go.Proofs Go.LX
theorem ZI : 200 ≤ NN := by decide
theorem KR : 100 ≤ NN := by decide
theorem Yn {s : LX.State} (h : Small s) : KN (Gq s) = some (s, []) := by
  have := Ym h []
  rw [List.append_nil] at this
  exact this
theorem unpack_pack {a : List bQ} (hc : Pt a = 0) {s : LX.State} (h : sG a s) : D8 a (Gq (cZ s)) = (cZ s, 0) := by
  have ha := Dh hc
  have hs := IU ha h
  unfold D8
  rw [if_neg (by have := P7 hs; omega), Yn hs]
  simp only
  unfold RH
  rw [if_neg (by omega), if_neg (by rw [EY.2 (Gg ha h)]; omega), if_pos (EZ (h.sw ha))]
theorem snapGoesOn (a : List bQ) (b : LX.State) (c : Int) : ∃ N, p9 N a b c = some true := by
  refine ⟨NN, ?_⟩
  unfold p9
  rw [Gr a b KR, bnd, Vb, bnd, Bool.not_true, Bool.false_or]
  by_cases h1 : Pt a = 0
  · rw [if_neg (by omega)]
    by_cases h2 : Rh a b = 0
    · have ha := Dh h1
      have hb := EY.1 h2
      have hsw := Gg ha hb
      have hidem := EZ (hb.sw ha)
      rw [if_neg (by omega), dF (by simp), cond_false]
      simp only
      rw [KQ a _ ZI, bnd, unpack_pack h1 hb]
      simp only
      rw [dF (by simp), cond_false, AX KR (hb.sw ha), bnd, NS, bnd, dT rfl, Bool.not_true]
      unfold jN
      rw [cond_false]
      simp only
      rw [Gr a _ KR, bnd, if_neg (by omega), if_neg (by rw [EY.2 hsw]; omega), hidem]
      simp only
      rw [dF (by simp), cond_false, eqInt, bnd, dT rfl, Bool.not_true]
      unfold jM
      rw [cond_false]
      simp only
      by_cases h0 : b.status = 0
      · have h0' : (cZ b).status = 0 := h0
        obtain ⟨r, r1, r2, r3⟩ := at_eq c (n := 500) (by omega) (by omega)
        rw [dF (by omega), cond_false, r1, bnd, Mk a b r X4, bnd, if_neg (by omega), if_neg (by omega), if_neg (by omega), if_neg (by omega),
          Mk a (cZ b) r X4, bnd, if_neg (by omega), if_neg (by rw [EY.2 hsw]; omega), if_neg (by omega), if_neg (by omega)]
        simp only
        obtain ⟨q1, q2⟩ := SX ha r.toNat [] 0 b (cZ b) hb hsw hidem.symm
        have k1 := (Im ha r.toNat [] 0 b hb (by simp)).1
        have k2 := (Im ha r.toNat [] 0 (cZ b) hsw (by simp)).1
        simp only [decide_true, cond_true]
        rw [← q1, dT rfl, cond_true, eqInt, bnd, dT rfl, cond_true, AX KR (k1.sw ha), bnd, AX KR (k2.sw ha), bnd, NS, bnd, dT q2]
      · rw [dT h0, cond_true, dT (show b.status = (cZ b).status from rfl), dT (show b.aQ = (cZ b).aQ from rfl)]; rfl
    · rw [if_pos h2, dT h2, cond_true, bnd]
  · rw [if_pos h1, dT h1, cond_true, bnd]
end Go.Proofs.YtfclkapelkhlpaaGreatDoor
