/-
  What the law SoloSays needs of our own library and of the walks, no more.
-/
import Derived.Test.YtfclkapelkhlpaaGreatDoorProg
import Derived.Test.YtfclkapelkhlpaaGreatDoorSoloSaysTh
set_option linter.unusedSimpArgs false
set_option linter.unusedVariables false
set_option maxRecDepth 10000
namespace Go.Proofs.YtfclkapelkhlpaaGreatDoor
open Go Go.Proofs Go.LX
def ren (l : List Int) (v : Val) : Val := if v.kind = 2 then ⟨v.kind, (l.idxOf v.n : Nat)⟩ else v
def Gf (l : List Int) (f : LX.Frame) : LX.Frame := { f with regs := f.regs.map (ren l) }
def roots (fr : List LX.Frame) : List Val := fr.flatMap (·.regs)
def qz (s : LX.State) : List Int := Ch s.cells (roots s.frames)
def uq (s : LX.State) : LX.State := ⟨s.frames.map (Gf (qz s)), (qz s).map (fun k => (cellAt s.cells k).map (ren (qz s))), s.status, s.aL⟩
structure K9 (s : LX.State) : Prop where
  small : Small s
  cells : oo s.cells
  vals : ∀ f ∈ s.frames, ∀ v ∈ f.regs, jf s.cells.length v
theorem vN.sw {a : List bL} {s : LX.State} (h : vN a s) (ha : lZ a) : K9 s where
  small := h.small ha
  cells := h.cells
  vals f hf := by obtain ⟨x, g⟩ := xZ h.frames f hf; exact g.vals
theorem K9.roots {s : LX.State} (h : K9 s) : ∀ v ∈ roots s.frames, jf s.cells.length v := by
  intro v hv
  unfold YtfclkapelkhlpaaGreatDoor.roots at hv
  obtain ⟨f, hf, hv⟩ := List.mem_flatMap.1 hv
  exact h.vals f hf v hv
theorem XQ (fr : List LX.Frame) (h : ∀ f ∈ fr, f.regs.length ≤ 40) : (roots fr).length ≤ 40 * fr.length := by
  induction fr with
  | nil => simp [roots]
  | cons f l ih =>
    have := h f (by simp)
    have := ih (fun g hg => h g (List.mem_cons_of_mem _ hg))
    unfold roots at *
    rw [List.flatMap_cons, List.length_append, List.length_cons]; omega
theorem K9.rlen {s : LX.State} (h : K9 s) : (YtfclkapelkhlpaaGreatDoor.roots s.frames).length ≤ 400 := by
  have := XQ s.frames h.small.regs
  have := h.small.frames
  omega
theorem K9.reach {s : LX.State} (h : K9 s) : rT s.cells.length (qz s) ∧ kY (YtfclkapelkhlpaaGreatDoor.roots s.frames) (qz s) ∧ ∀ x ∈ qz s, kY (cellAt s.cells x) (qz s) := reach_ok h.cells h.roots
theorem Sg {α ρ : Type} {body : Int → List α → (List α → Option ρ) → Option ρ} {K : List α → Option ρ} {g : α → α} {P : α → Prop}
    (hb : ∀ (i : Nat) (x : List α) a nx, x[i]? = some a → P a → body (i : Int) x nx = nx (x.set i (g a))) :
    ∀ (l2 l1 : List α), (∀ a ∈ l2, P a) → upto body K (l1.length : Int) l2.length (l1 ++ l2) = K (l1 ++ l2.map g)
  | [], l1, _ => by simp [upto]
  | a :: l2, l1, h => by
    rw [List.length_cons, F5, hb l1.length (l1 ++ a :: l2) a _ (by simp) (h a (by simp))]
    have := Sg (K := K) hb l2 (l1 ++ [g a]) (fun b hb => h b (List.mem_cons_of_mem _ hb))
    rw [show (l1 ++ a :: l2).set l1.length (g a) = (l1 ++ [g a]) ++ l2 by simp, show ((l1.length : Int) + 1) = ((l1 ++ [g a]).length : Nat) by simp, this]
    simp
theorem Dt {α ρ : Type} {body : Int → List α → (List α → Option ρ) → Option ρ} {K : List α → Option ρ} {g : α → α} {P : α → Prop}
    (hb : ∀ (i : Nat) (x : List α) a nx, x[i]? = some a → P a → body (i : Int) x nx = nx (x.set i (g a))) (l : List α) (hp : ∀ a ∈ l, P a) : upto body K 0 l.length l = K (l.map g) := by
  have := Sg (K := K) hb l [] hp
  simpa using this
def Nq (l : List Int) (m : List (Int × Int)) : Prop := ∀ k, lk k m = if k ∈ l then some ((l.idxOf k : Nat) : Int) else none
theorem VD {l : List Int} {m : List (Int × Int)} (h : Nq l m) (vs : List Val) (hr : kY vs l) : MF vs m = some (vs.map (ren l)) := by
  unfold MF
  rw [Int.toNat_natCast]
  refine Dt (P := fun v => v.kind = 2 → v.n ∈ l) (fun i x a nx hx hp => ?_) vs (fun v hv => hr v hv)
  unfold FT FR
  rw [pM, hx, bnd]
  by_cases hk : a.kind = 2
  · rw [dT hk, cond_true, h a.n, if_pos (hp hk)]
    simp [ren, hk]
  · rw [dF hk, cond_false]
    have : x.set i a = x := by
      obtain ⟨h1, rfl⟩ := List.getElem?_eq_some_iff.1 hx
      exact List.set_getElem_self h1
    simp [ren, hk, this]
theorem Nr {s : LX.State} (hc : oo s.cells) {K : List (List Val) × List Int × List (Int × Int) → Option LX.State} : ∀ (l2 l1 : List Int) (m : List (Int × Int)), rT s.cells.length (l1 ++ l2) → Nq l1 m →
    ∃ m', Nq (l1 ++ l2) m' ∧ dW (sZ s) K (l1.length : Int) l2 (l1.map (cellAt s.cells), l1, m) = K ((l1 ++ l2).map (cellAt s.cells), l1 ++ l2, m')
  | [], l1, m, _, h => ⟨m, by simpa using h, by simp [dW]⟩
  | k :: l2, l1, m, hm, h => by
    have e1 : l1 ++ k :: l2 = (l1 ++ [k]) ++ l2 := by simp
    have hk : k ∉ l1 := by
      intro hk
      exact (List.nodup_append.1 hm.1).2.2 k hk k (by simp) rfl
    have hl := hm.len
    have hn := hc.1
    simp only [List.length_append, List.length_cons] at hl
    have hr := hm.2 k (by simp)
    rw [ja]
    obtain ⟨m', h1, h2⟩ := Nr hc (K := K) l2 (l1 ++ [k]) (DD k (l1.length : Int) m) (by rw [← e1]; exact hm) (fun q => by
      rw [Qz]
      by_cases e : q = k
      · subst e
        rw [if_pos rfl, if_pos (by simp), List.idxOf_append, if_neg hk]
        simp
      · rw [if_neg e, h q]
        by_cases hq : q ∈ l1
        · rw [if_pos hq, if_pos (by simp [hq]), List.idxOf_append, if_pos hq]
        · rw [if_neg hq, if_neg (by simp [hq, e])])
    refine ⟨m', by rw [e1]; exact h1, ?_⟩
    have hlen : (((l1 ++ [k]).length : Nat) : Int) = (l1.length : Int) + 1 := by simp
    rw [hlen] at h2
    rw [e1, ← h2]
    generalize dW (sZ s) K ((l1.length : Int) + 1) l2 = K1
    unfold sZ
    simp only
    rw [(yQ hr).1, bnd, oq hk, oq (room_le (by simp; omega) (by decide)), List.map_append]
    rfl
theorem QA {l : List Int} {m : List (Int × Int)} (h : Nq l m) (K : List LX.Frame → Option LX.State) (fr : List LX.Frame) (hr : ∀ f ∈ fr, kY f.regs l) : upto (xS m) K 0 fr.length fr = K (fr.map (Gf l)) :=
  Dt (P := fun f => kY f.regs l) (fun i x a nx hx hp => by
    unfold xS
    rw [pM, hx, bnd, VD h a.regs hp, bnd]
    simp [Gf]) fr hr
theorem Si {l : List Int} {m : List (Int × Int)} (h : Nq l m) (K : List (List Val) → Option LX.State) (cs : List (List Val)) (hr : ∀ c ∈ cs, kY c l) : upto (zF m) K 0 cs.length cs = K (cs.map (fun c => c.map (ren l))) :=
  Dt (P := fun c => kY c l) (fun i x a nx hx hp => by
    unfold zF
    rw [pM, hx, bnd, VD h a hp, bnd]
    simp) cs hr
theorem O7 {K : List Val → Option LX.State} : ∀ (fr : List LX.Frame) (acc : List Val), acc.length + (roots fr).length ≤ 1000 → each vJ K fr acc = K (acc ++ roots fr)
  | [], acc, _ => by simp [fQ, roots]
  | f :: fr, acc, h => by
    have e : roots (f :: fr) = f.regs ++ roots fr := rfl
    rw [e, List.length_append] at h
    rw [dV]
    have ih := O7 (K := K) fr (acc ++ f.regs) (by simp; omega)
    generalize each vJ K fr = K1 at ih ⊢
    unfold vJ
    rw [oq (room_le (by omega) (by decide)), ih, e, List.append_assoc]
theorem Ns {fr : List LX.Frame} {l : List Int} (h : kY (roots fr) l) : ∀ f ∈ fr, kY f.regs l := fun f hf v hv hk => h v (List.mem_flatMap.2 ⟨f, hf, hv⟩) hk
theorem sweep_eq {N : Nat} (hN : 100 ≤ N) {s : LX.State} (h : K9 s) : II N s = some (uq s) := by
  have hr := h.reach
  unfold II
  rw [O7 s.frames [] (by have := h.rlen; simp; omega), List.nil_append]
  unfold Ar
  rw [reach_eq hN h.cells h.roots h.rlen, bnd, dF (by simp), cond_false, copy_eq h.small, bnd]
  have e : Ch s.cells (roots s.frames) = qz s := rfl
  simp only [e]
  obtain ⟨m', h1, h2⟩ := Nr h.cells (K := vI s) (qz s) [] [] (by simpa using hr.1) (fun k => by simp [lk])
  have h2' : dW (sZ s) (vI s) 0 (qz s) ([], ([] : List Int), ([] : List (Int × Int))) = _ := h2
  rw [h2']
  simp only [List.nil_append] at h1 ⊢
  unfold vI
  simp only [Int.toNat_natCast]
  rw [QA h1 _ _ (Ns hr.2.1)]
  unfold Aq
  rw [Int.toNat_natCast, Si h1 _ _ (fun c hc => by
    obtain ⟨k, hk, rfl⟩ := List.mem_map.1 hc
    exact hr.2.2 k hk)]
  unfold Ap uq
  rw [List.map_map]; rfl
theorem ren_ref {l : List Int} {v : Val} (h : v.kind = 2 → v.n ∈ l) : qN v l = some (ren l v) := by
  unfold qN ng ren
  by_cases hk : v.kind = 2
  · rw [dT hk, cond_true, Kq (h hk), bnd, if_pos hk]
  · rw [dF hk, cond_false, if_neg hk]
theorem regs_ref {l : List Int} (K : List Val → Option LX.State) (vs : List Val) (hr : kY vs l) : upto (ma l) K 0 vs.length vs = K (vs.map (ren l)) :=
  Dt (P := fun v => v.kind = 2 → v.n ∈ l) (fun i x a nx hx hp => by
    unfold ma
    rw [pM, hx, bnd, ren_ref hp, bnd]
    simp) vs (fun v hv => hr v hv)
theorem UF {l : List Int} (K : List LX.Frame → Option LX.State) (fr : List LX.Frame) (hr : ∀ f ∈ fr, kY f.regs l) : upto (lL l) K 0 fr.length fr = K (fr.map (Gf l)) :=
  Dt (P := fun f => kY f.regs l) (fun i x a nx hx hp => by
    unfold lL
    rw [pM, hx, bnd, Int.toNat_natCast, regs_ref _ _ hp]
    unfold pY
    simp [Gf]) fr hr
theorem Sj {l : List Int} (K : List Val → Option LX.State) : ∀ (vs acc : List Val), kY vs l → acc.length + vs.length ≤ 1000 → each (jc l) K vs acc = K (acc ++ vs.map (ren l))
  | [], acc, _, _ => by simp [fQ]
  | v :: vs, acc, hr, hl => by
    simp only [List.length_cons] at hl
    rw [dV]
    have ih := Sj K vs (acc ++ [ren l v]) (fun w hw => hr w (List.mem_cons_of_mem _ hw)) (by simp; omega)
    generalize each (jc l) K vs = K1 at ih ⊢
    have e : jc l v acc K1 = K1 (acc ++ [ren l v]) := by
      unfold jc nW ren
      by_cases hk : v.kind = 2
      · rw [dT hk, cond_true, Kq (hr v (by simp) hk), bnd, if_pos hk, oq (room_le (by simp; omega) (by decide))]
      · rw [dF hk, cond_false, if_neg hk, oq (room_le (by simp; omega) (by decide))]
    rw [e, ih]; simp
theorem O8 {s : LX.State} (hc : oo s.cells) {l : List Int} (hl : rT s.cells.length l) (hr : ∀ x ∈ l, kY (cellAt s.cells x) l) (K : List (List Val) → Option LX.State) :
    ∀ (m i : Nat) (acc : List (List Val)), i + m = l.length → acc.length = i → upto (jd l s) K (i : Int) m acc = K (acc ++ (l.drop i).map (fun k => (cellAt s.cells k).map (ren l)))
  | 0, i, acc, h, _ => by rw [show l.drop i = [] from List.drop_eq_nil_of_le (by omega)]; simp [upto]
  | m + 1, i, acc, h, ha => by
    rw [F5]
    have hi : i < l.length := by omega
    have hk := hl.2 _ (List.getElem_mem hi)
    have ih := O8 hc hl hr K m (i + 1) (acc ++ [(cellAt s.cells l[i]).map (ren l)]) (by omega) (by simp; omega)
    rw [show (((i + 1 : Nat)) : Int) = (i : Int) + 1 by omega] at ih
    generalize upto (jd l s) K ((i : Int) + 1) m = K1 at ih ⊢
    unfold jd
    have h4 := (hc.at hk).1.2
    have h5 := hl.len
    have h6 := hc.1
    rw [xw hi, bnd, (yQ hk).1, bnd, Sj _ _ _ (hr _ (List.getElem_mem hi)) (by simp; omega)]
    unfold nX
    rw [List.nil_append, oq (room_le (by simp; omega) (by decide)), ih, List.drop_eq_getElem_cons hi, List.map_cons]
    simp only [List.append_assoc, List.cons_append, List.nil_append]
theorem Sk {K : List Val → Option LX.State} : ∀ (fr : List LX.Frame) (acc : List Val), acc.length + (roots fr).length ≤ 1000 → each jS K fr acc = K (acc ++ roots fr)
  | [], acc, _ => by simp [fQ, roots]
  | f :: fr, acc, h => by
    have e : roots (f :: fr) = f.regs ++ roots fr := rfl
    rw [e, List.length_append] at h
    rw [dV]
    have ih := Sk (K := K) fr (acc ++ f.regs) (by simp; omega)
    generalize each jS K fr = K1 at ih ⊢
    unfold jS
    rw [oq (room_le (by omega) (by decide)), ih, e, List.append_assoc]
theorem swept_eq {N : Nat} (hN : 100 ≤ N) {s : LX.State} (h : K9 s) : uw N s = some (uq s) := by
  have hr := h.reach
  unfold uw
  rw [Sk s.frames [] (by have := h.rlen; simp; omega), List.nil_append]
  unfold nZ
  rw [met_eq hN h.cells h.roots h.rlen, bnd, UE h.small, bnd]
  have e : Ch s.cells (roots s.frames) = qz s := rfl
  rw [e, Int.toNat_natCast, UF _ _ (Ns hr.2.1)]
  unfold nY
  rw [Int.toNat_natCast]
  have := O8 h.cells hr.1 hr.2.2 (lK (s.frames.map (Gf (qz s))) s) (qz s).length 0 [] (by omega) rfl
  have h2 : upto (jd (qz s) s) (lK (s.frames.map (Gf (qz s))) s) 0 (qz s).length [] = _ := this
  rw [h2]
  rfl
end Go.Proofs.YtfclkapelkhlpaaGreatDoor
namespace Go.Proofs.YtfclkapelkhlpaaGreatDoor
open Go Go.Proofs Go.LX
def kR (r : List Val) (i : Int) : Val := (idx r i).getD ⟨0, 0⟩
def opP (k : Int) (b c : Val) : Option Val :=
  if k = 5 then some ⟨1, if b = c then 1 else 0⟩ else if b.kind ≠ 1 ∨ c.kind ≠ 1 then none else if k = 4 then some ⟨1, if b.n < c.n then 1 else 0⟩ else
  let n := if k = 1 then b.n + c.n else if k = 2 then b.n - c.n else b.n * c.n
  if -1000000000 ≤ n ∧ n ≤ 1000000000 then some ⟨1, n⟩ else none
def Ev (f : LX.Frame) (x : bL) : LX.Frame := { f with at_ := min (f.at_ + 1) ((x.code.length : Int) - 1) }
def NY (s : LX.State) (c : Ins) : Option LX.State :=
  if s.cells.length = 24 then none else some ⟨s.frames.dropLast ++ (s.frames.getLast?.map fun h => { h with regs := h.regs.set c.a.toNat ⟨2, s.cells.length⟩ }).toList, s.cells ++ [List.replicate c.b.toNat ⟨0, 0⟩], s.status, s.aL⟩
def jh (a : List bL) (pre : List LX.Frame) (f : LX.Frame) (cells : List (List Val)) (st wh : Int) (x : bL) (c : Ins) : Option (LX.State × Option Int × Bool) :=
  let g := Ev f x
  let r := kR f.regs
  let put := fun (v : Val) => (⟨pre ++ [{ g with regs := f.regs.set c.a.toNat v }], cells, st, wh⟩ : LX.State)
  let stay := (⟨pre ++ [g], cells, st, wh⟩ : LX.State)
  let jump := (⟨pre ++ [{ g with at_ := c.b }], cells, st, wh⟩ : LX.State)
  let bad := fun (v : Val) => v.kind ≠ 2 ∨ ((cellAt cells v.n).length : Int) ≤ c.c
  if c.op = 1 then some (put ⟨1, c.b⟩, none, false) else
  if c.op = 2 then some (put (r c.b), none, false) else
  if c.op = 3 then (opP (c.args.headD 0) (r c.b) (r c.c)).map fun v => (put v, none, false) else
  if c.op = 4 then (if bad (r c.b) then none else some (put (kR (cellAt cells (r c.b).n) c.c), none, false)) else
  if c.op = 6 then (if bad (r c.a) then none else some (⟨pre ++ [g], cells.set (r c.a).n.toNat ((cellAt cells (r c.a).n).set c.c.toNat (r c.b)), st, wh⟩, none, false)) else
  if c.op = 5 then (NY (if cells.length = 24 then uq stay else stay) c).map fun t => (t, none, false) else
  if c.op = 7 then (if pre.length + 1 = 10 then none else some (⟨pre ++ [g] ++ [⟨c.b, 0, c.args.map r ++ List.replicate (((idx a c.b).map (·.regs)).getD 0 - c.args.length).toNat ⟨0, 0⟩, c.a⟩], cells, st, wh⟩, none, false)) else
  if c.op = 8 then some (match pre.getLast? with
    | none => ⟨[], cells, 1, wh⟩
    | some h => ⟨pre.dropLast ++ [{ h with regs := h.regs.set f.lW.toNat (r c.a) }], cells, st, wh⟩, none, false) else
  if c.op = 9 then (if (r c.a).kind = 1 then some (stay, some (r c.a).n, false) else none) else
  if c.op = 11 then (if (r c.a).kind = 1 then some (⟨pre ++ [g], cells, 3, (r c.a).n⟩, none, true) else none) else
  if c.op = 12 then some (jump, none, false) else
  if c.op = 13 then some (if (r c.a).kind ≠ 2 ∧ (r c.a).n = 0 then jump else stay, none, false) else
  some (stay, none, true)
def R1 (r : Option (Gu × Bool × LX.State)) (q : Option (LX.State × Option Int × Bool)) : Prop := ∃ o ok s', r = some (o, ok, s') ∧ match q with | none => ok = false | some (t, said, p) => ok = true ∧ s' = t ∧ o = ⟨said.isSome, said.getD 0, p⟩
def R2 (r : Option (List Int × Bool × Bool × LX.State)) (q : Option (LX.State × Option Int × Bool)) : Prop := ∃ l p ok s', r = some (l, p, ok, s') ∧ match q with | none => ok = false | some (t, said, pz) => ok = true ∧ s' = t ∧ l = said.toList ∧ p = pz
theorem Bw {R : Int} {r : List Val} (hr : (r.length : Int) = R) {i : Int} (h : vV R i) : idx r i = some (kR r i) ∧ kR r i ∈ r := by
  obtain ⟨h1, h2⟩ := h
  obtain ⟨n, rfl⟩ := Int.eq_ofNat_of_zero_le h1
  unfold kR
  rw [xw (by omega)]
  exact ⟨rfl, List.getElem_mem _⟩
theorem mJ (pre : List LX.Frame) (f : LX.Frame) : idx (pre ++ [f]) (pre.length : Int) = some f := by rw [pM]; simp
theorem kC (pre : List LX.Frame) (f g : LX.Frame) : (pre ++ [f]).set pre.length g = pre ++ [g] := by simp
theorem je (pre : List LX.Frame) (f : LX.Frame) : (((pre ++ [f]).length : Int) - 1) = (pre.length : Int) := by simp
theorem mul_bd {x y : Int} (hx : -1000000000 ≤ x ∧ x ≤ 1000000000) (hy : -1000000000 ≤ y ∧ y ≤ 1000000000) : -1000000000000000000 ≤ x * y ∧ x * y ≤ 1000000000000000000 := by
  have h1 : (x * y).natAbs ≤ 1000000000 * 1000000000 := by
    rw [Int.natAbs_mul]
    exact Nat.mul_le_mul (by omega) (by omega)
  omega
theorem jf.int {n : Nat} {v : Val} (h : jf n v) (hk : v.kind = 1) : -1000000000 ≤ v.n ∧ v.n ≤ 1000000000 := by unfold jf at h; omega
theorem op_eq {n : Nat} {k : Int} {b c : Val} (hk : 1 ≤ k ∧ k ≤ 5) (hb : jf n b) (hc : jf n c) : ∃ v, Rv k b c = some (v, (opP k b c).isSome) ∧ ∀ w, opP k b c = some w → v = w := by
  unfold Rv opP CU
  by_cases h5 : k = 5
  · rw [dT h5, cond_true, if_pos h5]
    by_cases e : b = c
    · subst e; simp
    · rw [if_neg e]
      have : (decide (b.kind = c.kind) && decide (b.n = c.n)) = false := by
        obtain ⟨k1, n1⟩ := b; obtain ⟨k2, n2⟩ := c
        rw [Bool.and_eq_false_iff]; simp at e ⊢
        by_cases h : k1 = k2
        · right; exact e h
        · left; exact h
      rw [this]; simp
  rw [dF h5, cond_false, if_neg h5]
  by_cases hi : b.kind = 1 ∧ c.kind = 1
  · rw [show (decide ((b.kind : Int) ≠ 1) || decide ((c.kind : Int) ≠ 1)) = false by simp [hi.1, hi.2], cond_false, if_neg (by simp [hi.1, hi.2])]
    have b1 := hb.int hi.1
    have c1 := hc.int hi.2
    have m1 := mul_bd b1 c1
    have fin : ∀ z : Int, ∃ v, some ((⟨1, z⟩ : Val), (decide ((-1000000000 : Int) ≤ z) && decide ((z : Int) ≤ 1000000000))) = some (v, (if -1000000000 ≤ z ∧ z ≤ 1000000000 then some (⟨1, z⟩ : Val) else none).isSome) ∧ ∀ w, (if -1000000000 ≤ z ∧ z ≤ 1000000000 then some (⟨1, z⟩ : Val) else none) = some w → v = w := by
      intro z
      by_cases h : -1000000000 ≤ z ∧ z ≤ 1000000000
      · rw [if_pos h, dT h.1, dT h.2]; exact ⟨_, rfl, fun w e => by cases e; rfl⟩
      · rw [if_neg h]
        refine ⟨⟨1, z⟩, ?_, fun w e => by cases e⟩
        · congr 2
          rw [Option.isSome_none, Bool.and_eq_false_iff]; simp only [decide_eq_false_iff_not]; omega
    by_cases h4 : k = 4
    · subst h4
      rw [if_pos rfl]
      simp only [Int.reduceEq, decide_false, decide_true, cond_false, cond_true]
      by_cases e : b.n < c.n <;> simp [e]
    rw [if_neg h4]
    by_cases h1 : k = 1
    · subst h1
      simp only [Int.reduceEq, decide_true, cond_true, if_true]
      rw [gI (by omega) (by omega)]
      exact fin _
    by_cases h2 : k = 2
    · subst h2
      simp only [Int.reduceEq, decide_true, decide_false, cond_true, cond_false, if_true, if_false]
      rw [gI (by omega) (by omega)]
      exact fin _
    · obtain rfl : k = 3 := by omega
      simp only [Int.reduceEq, decide_true, decide_false, cond_true, cond_false, if_true, if_false]
      rw [gI (by omega) (by omega)]
      exact fin _
  · rw [show (decide ((b.kind : Int) ≠ 1) || decide ((c.kind : Int) ≠ 1)) = true by simp; omega, cond_true, if_pos (by omega)]
    exact ⟨_, rfl, fun w e => by cases e⟩
theorem XR {n : Nat} {k : Int} {b c : Val} (hk : 1 ≤ k ∧ k ≤ 5) (hb : jf n b) (hc : jf n c) : ∃ v, tF k b c = some (v, (opP k b c).isSome) ∧ ∀ w, opP k b c = some w → v = w := by
  unfold tF opP
  by_cases h5 : k = 5
  · rw [dT h5, cond_true, if_pos h5]
    by_cases e : b = c
    · subst e; simp
    · rw [if_neg e]
      have : (decide (b.kind = c.kind) && decide (b.n = c.n)) = false := by
        obtain ⟨k1, n1⟩ := b; obtain ⟨k2, n2⟩ := c
        rw [Bool.and_eq_false_iff]; simp at e ⊢
        by_cases h : k1 = k2
        · right; exact e h
        · left; exact h
      rw [this]; simp
  rw [dF h5, cond_false, if_neg h5]
  by_cases hi : b.kind = 1 ∧ c.kind = 1
  · rw [show (decide ((b.kind : Int) ≠ 1) || decide ((c.kind : Int) ≠ 1)) = false by simp [hi.1, hi.2], cond_false, if_neg (by simp [hi.1, hi.2])]
    have b1 := hb.int hi.1
    have c1 := hc.int hi.2
    have m1 := mul_bd b1 c1
    have fin : ∀ z : Int, ∃ v, some ((⟨1, z⟩ : Val), (dU z)) = some (v, (if -1000000000 ≤ z ∧ z ≤ 1000000000 then some (⟨1, z⟩ : Val) else none).isSome) ∧ ∀ w, (if -1000000000 ≤ z ∧ z ≤ 1000000000 then some (⟨1, z⟩ : Val) else none) = some w → v = w := by
      intro z
      unfold dU aN
      by_cases h : -1000000000 ≤ z ∧ z ≤ 1000000000
      · rw [if_pos h, dT h.1, dT h.2]; exact ⟨_, rfl, fun w e => by cases e; rfl⟩
      · rw [if_neg h]
        refine ⟨⟨1, z⟩, ?_, fun w e => by cases e⟩
        · congr 2
          rw [Option.isSome_none, Bool.and_eq_false_iff]; simp only [decide_eq_false_iff_not]; omega
    by_cases h4 : k = 4
    · subst h4
      rw [if_pos rfl]
      simp only [Int.reduceEq, decide_false, decide_true, cond_false, cond_true]
      by_cases e : b.n < c.n <;> simp [e]
    rw [if_neg h4, dF h4, cond_false, gI (by omega) (by omega), gI (by omega) (by omega), gI (by omega) (by omega)]
    by_cases h1 : k = 1
    · subst h1; exact fin _
    by_cases h2 : k = 2
    · subst h2; exact fin _
    · obtain rfl : k = 3 := by omega
      exact fin _
  · rw [show (decide ((b.kind : Int) ≠ 1) || decide ((c.kind : Int) ≠ 1)) = true by simp; omega, cond_true, if_pos (by omega)]
    exact ⟨_, rfl, fun w e => by cases e⟩
end Go.Proofs.YtfclkapelkhlpaaGreatDoor
namespace Go.Proofs.YtfclkapelkhlpaaGreatDoor
open Go Go.Proofs Go.LX
theorem oz {a : List bL} {n : Nat} {f : LX.Frame} : ∀ {l : List LX.Frame} {t : Int}, lM a n t (l ++ [f]) ↔ lM a n t l ∧ (∃ x, Cg a n f x) ∧ (0 ≤ f.lW ∧ f.lW < (match l.getLast? with | none => t | some g => g.regs.length))
  | [], t => by simp [lM]
  | g :: l, t => by
    show ((∃ x, Cg a n g x) ∧ (0 ≤ g.lW ∧ g.lW < t) ∧ lM a n g.regs.length (l ++ [f])) ↔ _
    rw [oz (l := l)]
    have e : (match (g :: l).getLast? with | none => t | some g => ((g.regs.length : Int))) = (match l.getLast? with | none => ((g.regs.length : Int)) | some g => (g.regs.length : Int)) := by
      rw [List.getLast?_cons]
      cases l.getLast? <;> rfl
    rw [e]
    simp only [lM, and_assoc]
structure mE (a : List bL) (pre : List LX.Frame) (f : LX.Frame) (cells : List (List Val)) (x : bL) (c : Ins) : Prop where
  fr : Cg a cells.length f x
  ins : idx x.code f.at_ = some c
  good : Eu a x.regs x.code.length c
  chain : lM a cells.length 1 pre
  lW : 0 ≤ f.lW ∧ f.lW < ahead pre
  many : pre.length + 1 ≤ 10
  O9 : oo cells
  proc : (1 ≤ x.regs ∧ x.regs ≤ 40) ∧ tH x
theorem top_ok {a : List bL} (ha : lZ a) {pre : List LX.Frame} {f : LX.Frame} {cells : List (List Val)} {st wh : Int} (h : vN a ⟨pre ++ [f], cells, st, wh⟩) : ∃ x c, mE a pre f cells x c := by
  obtain ⟨h1, ⟨x, g⟩, h3⟩ := oz.1 h.frames
  have hm := ha.mem g.proc
  have hat := g.at_
  obtain ⟨n, hn⟩ := Int.eq_ofNat_of_zero_le hat.1
  have hlt : n < x.code.length := by omega
  refine ⟨x, x.code[n], g, by rw [hn, xw hlt], ha.ins x hm.1 _ (List.getElem_mem _), h1, h3, ?_, h.cells, ⟨by omega, hm.2.2.2⟩⟩
  have := h.many
  simpa using this
theorem mE.Ev {a : List bL} {pre : List LX.Frame} {f : LX.Frame} {cells : List (List Val)} {x : bL} {c : Ins} (h : mE a pre f cells x c) : Cg a cells.length (Ev f x) x where
  proc := h.fr.proc
  at_ := by
    have := h.fr.at_
    have := h.proc.2
    unfold tH at this
    simp only [YtfclkapelkhlpaaGreatDoor.Ev]
    omega
  regs := h.fr.regs
  vals := h.fr.vals
theorem mE.reg {a : List bL} {pre : List LX.Frame} {f : LX.Frame} {cells : List (List Val)} {x : bL} {c : Ins} (h : mE a pre f cells x c) {i : Int} (hi : vV x.regs i) : idx f.regs i = some (kR f.regs i) ∧ jf cells.length (kR f.regs i) := by
  have := Bw h.fr.regs hi
  exact ⟨this.1, h.fr.vals _ this.2⟩
theorem mE.sw {a : List bL} {pre : List LX.Frame} {f : LX.Frame} {cells : List (List Val)} {x : bL} {c : Ins} (ha : lZ a) (h : mE a pre f cells x c) {st wh : Int} {g : LX.Frame} (hg : Cg a cells.length g x) : K9 ⟨pre ++ [g], cells, st, wh⟩ where
  small := ⟨by have := h.many; simp; omega, fun k hk => by
    rcases List.mem_append.1 hk with hk | hk
    · obtain ⟨y, hy⟩ := xZ h.chain k hk
      have := hy.regs
      have := (ha.mem hy.proc).2.2.1
      omega
    · simp at hk; subst hk
      have := hg.regs
      have := h.proc.1
      omega, h.O9.1, fun c hc => (h.O9.2 c hc).1.2⟩
  cells := h.O9
  vals k hk := by
    rcases List.mem_append.1 hk with hk | hk
    · obtain ⟨y, hy⟩ := xZ h.chain k hk
      exact hy.vals
    · simp at hk; subst hk; exact hg.vals
section
variable {a : List bL} {pre : List LX.Frame} {f : LX.Frame} {cells : List (List Val)} {st wh : Int} {x : bL} {c : Ins} {N : Nat}
theorem yc (h : mE a pre f cells x c) : tq N ⟨pre ++ [f], cells, st, wh⟩ a = (bif decide ((c.op : Int) = 1) then (idx f.regs c.a).bind fun x41 => nA false (pre ++ [{ Ev f x with regs := (f.regs.set (c.a).toNat (⟨1, c.b⟩ : Val)) }]) cells st wh else bif decide ((c.op : Int) = 2) then (idx f.regs c.b).bind fun Ib => (idx f.regs c.a).bind fun QD => nA false (pre ++ [{ Ev f x with regs := (f.regs.set (c.a).toNat Ib) }]) cells st wh else bif decide ((c.op : Int) = 3) then (idx c.args 0).bind fun q5 => (idx f.regs c.b).bind fun q10 => (idx f.regs c.c).bind fun q15 => (Rv q5 q10 q15).bind fun q17 => (idx f.regs c.a).bind fun q21 => D8 ⟨pre ++ [f], cells, st, wh⟩ q17.2 (pre ++ [{ Ev f x with regs := (f.regs.set (c.a).toNat q17.1) }]) else bif decide ((c.op : Int) = 4) then kE N ⟨pre ++ [f], cells, st, wh⟩ f x c a (decide ((c.op : Int) = 4)) else kE N ⟨pre ++ [f], cells, st, wh⟩ f x c a (decide ((c.op : Int) = 6))) := by
  have hm := h.many
  have hat := h.fr.at_
  have hl := h.proc.2
  unfold tH at hl
  unfold tq
  simp only [je]
  rw [gI (by omega) (by omega), mJ, bnd, h.fr.proc, bnd, h.ins, bnd, gI (by omega) (by omega), gI (by omega) (by omega)]
  simp only [Int.toNat_natCast, kC]
  rfl
theorem step1 (h : mE a pre f cells x c) (hop : c.op = 1) (hr : vV x.regs c.a) : R1 (tq N ⟨pre ++ [f], cells, st, wh⟩ a) (jh a pre f cells st wh x c) := by
  rw [yc h, hop]
  simp only [Int.reduceEq, decide_true, decide_false, cond_true, cond_false]
  rw [(h.reg hr).1, bnd]
  unfold jh
  simp only [hop, if_true]
  exact ⟨_, _, _, rfl, rfl, rfl, rfl⟩
theorem step2 (h : mE a pre f cells x c) (hop : c.op = 2) (hr : vV x.regs c.a) (hb : vV x.regs c.b) : R1 (tq N ⟨pre ++ [f], cells, st, wh⟩ a) (jh a pre f cells st wh x c) := by
  rw [yc h, hop]
  simp only [Int.reduceEq, decide_true, decide_false, cond_true, cond_false]
  rw [(h.reg hb).1, bnd, (h.reg hr).1, bnd]
  unfold jh
  simp only [hop, Int.reduceEq, if_true, if_false]
  exact ⟨_, _, _, rfl, rfl, rfl, rfl⟩
theorem step3 (h : mE a pre f cells x c) (hop : c.op = 3) (hr : vV x.regs c.a) (hb : vV x.regs c.b) (hc : vV x.regs c.c) {n : Int} (hn : c.args = [n]) (hn2 : 1 ≤ n ∧ n ≤ 5) : R1 (tq N ⟨pre ++ [f], cells, st, wh⟩ a) (jh a pre f cells st wh x c) := by
  rw [yc h, hop, hn]
  simp only [Int.reduceEq, decide_true, decide_false, cond_true, cond_false]
  obtain ⟨v, h1, h2⟩ := op_eq hn2 (h.reg hb).2 (h.reg hc).2
  rw [Ec, bnd, (h.reg hb).1, bnd, (h.reg hc).1, bnd, h1, bnd, (h.reg hr).1, bnd]
  unfold jh D8
  simp only [hop, hn, Int.reduceEq, if_true, if_false, List.headD_cons]
  cases e : opP n (kR f.regs c.b) (kR f.regs c.c) with
  | none => exact ⟨_, _, _, rfl, rfl⟩
  | some w => rw [h2 w e]; exact ⟨_, _, _, rfl, rfl, rfl, rfl⟩
theorem I8 {v : Val} (hc : oo cells) (h : jf cells.length v) (hk : v.kind = 2) : idx cells v.n = some (cellAt cells v.n) ∧ (1 ≤ (cellAt cells v.n).length ∧ (cellAt cells v.n).length ≤ 4) := by
  have hr := h.ref hk
  exact ⟨(yQ hr).1, (hc.at hr).1⟩
theorem Lt {v : Val} {i : Int} (hi : 0 ≤ i) (h : i < ((cellAt cells v.n).length : Int)) : idx (cellAt cells v.n) i = some (kR (cellAt cells v.n) i) := (Bw rfl ⟨hi, h⟩).1
theorem XT (h : mE a pre f cells x c) (hop : c.op = 4) (hr : vV x.regs c.a) (hb : vV x.regs c.b) (hc : 0 ≤ c.c ∧ c.c < 4) : R1 (tq N ⟨pre ++ [f], cells, st, wh⟩ a) (jh a pre f cells st wh x c) := by
  rw [yc h, hop]
  simp only [Int.reduceEq, decide_true, decide_false, cond_true, cond_false]
  unfold kE IG zD zC
  simp only [je, Int.toNat_natCast, kC, hop, Int.reduceEq, decide_true, decide_false, cond_true, cond_false]
  have hv := h.reg hb
  rw [hv.1]
  simp only [bnd]
  unfold jh
  simp only [hop, Int.reduceEq, if_true, if_false]
  by_cases hk : (kR f.regs c.b).kind = 2
  · have hcell := I8 h.O9 hv.2 hk
    rw [dF (by omega), cond_false, hcell.1]
    simp only [bnd]
    by_cases hl : ((cellAt cells (kR f.regs c.b).n).length : Int) ≤ c.c
    · rw [dT hl, cond_true, if_pos (by omega)]
      exact ⟨_, _, _, rfl, rfl⟩
    · rw [dF hl, cond_false, if_neg (by omega), Lt hc.1 (by omega), bnd, (h.reg hr).1, bnd]
      exact ⟨_, _, _, rfl, rfl, rfl, rfl⟩
  · rw [dT hk, cond_true, if_pos (.inl hk)]
    exact ⟨_, _, _, rfl, rfl⟩
theorem XU (h : mE a pre f cells x c) (hop : c.op = 6) (hr : vV x.regs c.a) (hb : vV x.regs c.b) (hc : 0 ≤ c.c ∧ c.c < 4) : R1 (tq N ⟨pre ++ [f], cells, st, wh⟩ a) (jh a pre f cells st wh x c) := by
  rw [yc h, hop]
  simp only [Int.reduceEq, decide_true, decide_false, cond_true, cond_false]
  unfold kE IG zD zC
  simp only [je, Int.toNat_natCast, kC, hop, Int.reduceEq, decide_true, decide_false, cond_true, cond_false]
  have hv := h.reg hr
  rw [hv.1]
  simp only [bnd]
  unfold jh
  simp only [hop, Int.reduceEq, if_true, if_false]
  by_cases hk : (kR f.regs c.a).kind = 2
  · have hcell := I8 h.O9 hv.2 hk
    rw [dF (by omega), cond_false, hcell.1]
    simp only [bnd]
    by_cases hl : ((cellAt cells (kR f.regs c.a).n).length : Int) ≤ c.c
    · rw [dT hl, cond_true, if_pos (by omega)]
      exact ⟨_, _, _, rfl, rfl⟩
    · rw [dF hl, cond_false, if_neg (by omega), (h.reg hb).1, bnd, Lt hc.1 (by omega), bnd]
      exact ⟨_, _, _, rfl, rfl, rfl, rfl⟩
  · rw [dT hk, cond_true, if_pos (.inl hk)]
    exact ⟨_, _, _, rfl, rfl⟩
theorem Kr (g : LX.Frame) : uq ⟨pre ++ [g], cells, st, wh⟩ = ⟨pre.map (Gf (qz ⟨pre ++ [g], cells, st, wh⟩)) ++ [Gf (qz ⟨pre ++ [g], cells, st, wh⟩) g], (uq ⟨pre ++ [g], cells, st, wh⟩).cells, st, wh⟩ := by
  unfold uq; simp
theorem Pb {s : LX.State} (h : K9 s) : (uq s).cells.length ≤ s.cells.length ∧ (uq s).cells.length ≤ 24 := by
  have h1 := h.reach.1.len
  have := h.cells.1
  unfold uq; simp; omega
theorem Sl (p2 : List LX.Frame) (g : LX.Frame) (cs : List (List Val)) (hl : p2.length ≤ 20) (hcs : cs.length ≤ 24) (hr : vV g.regs.length c.a) (hb : 1 ≤ c.b ∧ c.b ≤ 4) : ∃ ok t, uX c (p2 ++ [g]) cs st wh = some (ok, t) ∧ match NY ⟨p2 ++ [g], cs, st, wh⟩ c with | none => ok = false | some u => ok = true ∧ t = u := by
  unfold uX NY
  simp only [je]
  by_cases h : cs.length = 24
  · rw [dT (by omega), cond_true, if_pos h]; exact ⟨_, _, rfl, rfl⟩
  · rw [dF (by omega), cond_false, if_neg h, gI (by omega) (by omega), mJ, bnd, (Bw rfl hr).1, bnd, oq (by omega), oq (room_le (by simp; omega) (by decide)), Int.toNat_natCast, kC]
    refine ⟨_, _, rfl, rfl, ?_⟩
    simp
theorem step5 (ha : lZ a) (hN : 100 ≤ N) (h : mE a pre f cells x c) (hop : c.op = 5) (hr : vV x.regs c.a) (hb : 1 ≤ c.b ∧ c.b ≤ 4) : R1 (tq N ⟨pre ++ [f], cells, st, wh⟩ a) (jh a pre f cells st wh x c) := by
  rw [yc h, hop]
  simp only [Int.reduceEq, decide_true, decide_false, cond_true, cond_false]
  unfold kE MG
  simp only [je, Int.toNat_natCast, kC, hop, Int.reduceEq, decide_true, decide_false, cond_true, cond_false]
  unfold jh
  simp only [hop, Int.reduceEq, if_true, if_false]
  have hm := h.many
  have hsw := mE.sw ha h (st := st) (wh := wh) h.Ev
  have hrr : vV (Ev f x).regs.length c.a := by have := h.Ev.regs; rw [this]; exact hr
  have fin : ∀ s2 : LX.State, (∃ ok t, uX c s2.frames s2.cells s2.status s2.aL = some (ok, t) ∧ match NY s2 c with | none => ok = false | some u => ok = true ∧ t = u) →
      R1 ((uX c s2.frames s2.cells s2.status s2.aL).bind fun y => some ((⟨false, 0, false⟩ : Gu), y.1, y.2)) ((NY s2 c).map fun t => (t, none, false)) := by
    rintro s2 ⟨ok, t, h1, h2⟩
    rw [h1, bnd]
    cases e : NY s2 c with
    | none => rw [e] at h2; exact ⟨_, _, _, rfl, h2⟩
    | some u => rw [e] at h2; exact ⟨_, _, _, rfl, h2.1, h2.2, rfl⟩
  by_cases h24 : cells.length = 24
  · rw [dT (by omega), cond_true, if_pos h24]
    have e1 : ({ f with at_ := min (f.at_ + 1) ((x.code.length : Int) - 1) } : LX.Frame) = Ev f x := rfl
    rw [e1, sweep_eq hN hsw, bnd]
    refine fin _ ?_
    rw [Kr]
    exact Sl _ _ _ (by simp; omega) (Pb hsw).2 (by simpa [Gf] using hrr) hb
  · rw [dF (by omega), cond_false, if_neg h24]
    exact fin ⟨pre ++ [Ev f x], cells, st, wh⟩ (Sl _ _ _ (by omega) h.O9.1 hrr hb)
theorem Kt {ρ : Type} {body : Int → Int → List Val → (List Val → Option ρ) → Option ρ} {K : List Val → Option ρ} {r : Int → Val} {P : Int → Prop}
    (hb : ∀ (i : Nat) k y nx, i < y.length → P k → body (i : Int) k y nx = nx (y.set i (r k))) : ∀ (l : List Int) (done rest : List Val), (∀ k ∈ l, P k) → l.length ≤ rest.length → dW body K (done.length : Int) l (done ++ rest) = K (done ++ l.map r ++ rest.drop l.length)
  | [], done, rest, _, _ => by simp [dW]
  | k :: l, done, z :: rest, h, hl => by
    rw [ja, hb done.length k (done ++ z :: rest) _ (by simp) (h k (by simp)), show (done ++ z :: rest).set done.length (r k) = (done ++ [r k]) ++ rest by simp, show ((done.length : Int) + 1) = ((done ++ [r k]).length : Nat) by simp, Kt hb l (done ++ [r k]) rest (fun q hq => h q (List.mem_cons_of_mem _ hq)) (by simpa using hl)]
    simp
  | k :: l, done, [], h, hl => by simp at hl
theorem step7 (ha : lZ a) (h : mE a pre f cells x c) (hop : c.op = 7) (hr : vV x.regs c.a) {p : bL} (hp : idx a c.b = some p) (hl : (c.args.length : Int) = p.params) (hargs : ∀ k ∈ c.args, vV x.regs k) : R1 (tq N ⟨pre ++ [f], cells, st, wh⟩ a) (jh a pre f cells st wh x c) := by
  rw [yc h, hop]
  simp only [Int.reduceEq, decide_true, decide_false, cond_true, cond_false]
  unfold kE Qn
  simp only [je, Int.toNat_natCast, kC, hop, Int.reduceEq, decide_true, decide_false, cond_true, cond_false]
  unfold jh
  simp only [hop, Int.reduceEq, if_true, if_false]
  have hm := h.many
  have hpr := ha.mem hp
  by_cases h10 : pre.length + 1 = 10
  · rw [dT (by simp; omega), cond_true, if_pos h10]; exact ⟨_, _, _, rfl, rfl⟩
  · rw [dF (by simp; omega), cond_false, if_neg h10, hp, bnd, oq (by omega)]
    have QM := Kt (K := yF ⟨pre ++ [Ev f x], cells, st, wh⟩ c a) (body := yE ⟨pre ++ [Ev f x], cells, st, wh⟩) (r := kR f.regs) (P := fun k => vV x.regs k) (fun i k y nx hi hk => by
      unfold yE
      simp only [je]
      rw [gI (by omega) (by omega), mJ, bnd]
      show ((idx f.regs k).bind fun CE => (idx y (i : Int)).bind fun x41 => nx (y.set ((i : Int)).toNat CE)) = _
      rw [(h.reg hk).1, bnd, xw hi, bnd, Int.toNat_natCast]) c.args [] (List.replicate p.regs.toNat ⟨0, 0⟩) hargs (by simp; omega)
    have UG : dW (yE ⟨pre ++ [Ev f x], cells, st, wh⟩) (yF ⟨pre ++ [Ev f x], cells, st, wh⟩ c a) 0 c.args (List.replicate p.regs.toNat ⟨0, 0⟩) = _ := QM
    have e1 : ({ f with at_ := min (f.at_ + 1) ((x.code.length : Int) - 1) } : LX.Frame) = Ev f x := rfl
    rw [e1, UG]
    unfold yF
    simp only
    rw [oq (room_le (by simp; omega) (by decide)), bnd]
    refine ⟨_, _, _, rfl, rfl, ?_, rfl⟩
    simp only [List.nil_append, List.drop_replicate, hp, Option.map_some, Option.getD_some]
    rw [show p.regs.toNat - c.args.length = (p.regs - (c.args.length : Int)).toNat by omega]
theorem step8 (ha : lZ a) (h : mE a pre f cells x c) (hop : c.op = 8) (hr : vV x.regs c.a) : R1 (tq N ⟨pre ++ [f], cells, st, wh⟩ a) (jh a pre f cells st wh x c) := by
  rw [yc h, hop]
  simp only [Int.reduceEq, decide_true, decide_false, cond_true, cond_false]
  unfold kE Qo
  simp only [je, Int.toNat_natCast, kC, hop, Int.reduceEq, decide_true, decide_false, cond_true, cond_false]
  unfold jh
  simp only [hop, Int.reduceEq, if_true, if_false]
  have hm := h.many
  rw [(h.reg hr).1, bnd, gI (by omega) (by omega)]
  rw [show sub? (pre ++ [({ f with at_ := min (f.at_ + 1) ((x.code.length : Int) - 1) } : LX.Frame)]) 0 (pre.length : Int) = some pre by unfold sub?; rw [if_pos (by simp; omega)]; simp [cut], bnd]
  rw [show (pre ++ [({ f with at_ := min (f.at_ + 1) ((x.code.length : Int) - 1) } : LX.Frame)]).take pre.length = pre by simp]
  rcases List.eq_nil_or_concat pre with hp | ⟨q, g, hp⟩
  · subst hp
    exact ⟨_, _, _, rfl, rfl, rfl, rfl⟩
  · rw [List.concat_eq_append] at hp
    subst hp
    have hto := h.lW
    rw [Ed] at hto
    simp only [List.length_append, List.length_cons, List.length_nil] at hm
    rw [dF (by simp; omega), cond_false, je, gI (by omega) (by omega), mJ, bnd, (Bw rfl hto).1, bnd, Int.toNat_natCast, kC, bnd]
    simp only [List.getLast?_append, List.getLast?_singleton, Option.some_or, List.dropLast_concat]
    exact ⟨_, _, _, rfl, rfl, rfl, rfl⟩
theorem Du (h : mE a pre f cells x c) (hop : (c.op = 9 ∨ c.op = 11 ∨ c.op = 13) ∧ vV x.regs c.a ∨ c.op = 10 ∨ c.op = 12) : R1 (tq N ⟨pre ++ [f], cells, st, wh⟩ a) (jh a pre f cells st wh x c) := by
  rw [yc h]
  rcases hop with ⟨hop | hop | hop, hr⟩ | hop | hop
  · rw [hop]
    simp only [Int.reduceEq, decide_true, decide_false, cond_true, cond_false]
    unfold kE
    simp only [je, Int.toNat_natCast, kC, hop, Int.reduceEq, decide_true, decide_false, cond_true, cond_false]
    unfold jh
    simp only [hop, Int.reduceEq, if_true, if_false]
    rw [(h.reg hr).1, bnd]
    by_cases hk : (kR f.regs c.a).kind = 1
    · rw [dT hk, if_pos hk]; exact ⟨_, _, _, rfl, rfl, rfl, rfl⟩
    · rw [dF hk, if_neg hk]; exact ⟨_, _, _, rfl, rfl⟩
  · rw [hop]
    simp only [Int.reduceEq, decide_true, decide_false, cond_true, cond_false]
    unfold kE
    simp only [je, Int.toNat_natCast, kC, hop, Int.reduceEq, decide_true, decide_false, cond_true, cond_false]
    unfold jh
    simp only [hop, Int.reduceEq, if_true, if_false]
    rw [(h.reg hr).1, bnd]
    by_cases hk : (kR f.regs c.a).kind = 1
    · rw [dF (by omega), cond_false, if_pos hk]; exact ⟨_, _, _, rfl, rfl, rfl, rfl⟩
    · rw [dT hk, cond_true, if_neg hk]; exact ⟨_, _, _, rfl, rfl⟩
  · rw [hop]
    simp only [Int.reduceEq, decide_true, decide_false, cond_true, cond_false]
    unfold kE
    simp only [je, Int.toNat_natCast, kC, hop, Int.reduceEq, decide_true, decide_false, cond_true, cond_false]
    unfold jh
    simp only [hop, Int.reduceEq, if_true, if_false]
    have hv := h.reg hr
    rw [hv.1, bnd]
    have hval := hv.2
    unfold jf at hval
    by_cases hk : (kR f.regs c.a).kind ≠ 2 ∧ (kR f.regs c.a).n = 0
    · rw [if_pos hk, show (decide ((kR f.regs c.a).kind = 0) || (decide ((kR f.regs c.a).kind = 1) && decide ((kR f.regs c.a).n = 0))) = true by simp; omega, cond_true]
      exact ⟨_, _, _, rfl, rfl, rfl, rfl⟩
    · rw [if_neg hk, show (decide ((kR f.regs c.a).kind = 0) || (decide ((kR f.regs c.a).kind = 1) && decide ((kR f.regs c.a).n = 0))) = false by rw [Bool.or_eq_false_iff, Bool.and_eq_false_iff]; simp only [decide_eq_false_iff_not]; omega, cond_false]
      exact ⟨_, _, _, rfl, rfl, rfl, rfl⟩
  · rw [hop]
    simp only [Int.reduceEq, decide_true, decide_false, cond_true, cond_false]
    unfold kE
    simp only [je, Int.toNat_natCast, kC, hop, Int.reduceEq, decide_true, decide_false, cond_true, cond_false]
    unfold jh
    simp only [hop, Int.reduceEq, if_true, if_false]
    exact ⟨_, _, _, rfl, rfl, rfl, rfl⟩
  · rw [hop]
    simp only [Int.reduceEq, decide_true, decide_false, cond_true, cond_false]
    unfold kE
    simp only [je, Int.toNat_natCast, kC, hop, Int.reduceEq, decide_true, decide_false, cond_true, cond_false]
    unfold jh
    simp only [hop, Int.reduceEq, if_true, if_false]
    exact ⟨_, _, _, rfl, rfl, rfl, rfl⟩
theorem UH (ha : lZ a) (hN : 100 ≤ N) (h : mE a pre f cells x c) : R1 (tq N ⟨pre ++ [f], cells, st, wh⟩ a) (jh a pre f cells st wh x c) := by
  rcases h.good with g | g | g | g | g | g | g | g | g | g
  · exact step1 h g.1 g.2.1
  · exact step2 h g.1 g.2.1 g.2.2
  · obtain ⟨g1, g2, g3, g4, n, g5, g6, g7⟩ := g
    exact step3 h g1 g2 g3 g4 g5 ⟨g6, g7⟩
  · obtain ⟨g1 | g1, g2, g3, g4⟩ := g
    · exact XT h g1 g2 g3 g4
    · exact XU h g1 g2 g3 g4
  · exact step5 ha hN h g.1 g.2.1 g.2.2
  · obtain ⟨g1, g2, ⟨p, g3, g4⟩, g5⟩ := g
    exact step7 ha h g1 g2 g3 g4 g5
  · obtain ⟨g1 | g1 | g1, g2⟩ := g
    · exact step8 ha h g1 g2
    · exact Du h (.inl ⟨.inl g1, g2⟩)
    · exact Du h (.inl ⟨.inr (.inl g1), g2⟩)
  · exact Du h (.inr (.inl g))
  · exact Du h (.inr (.inr g.1))
  · exact Du h (.inl ⟨.inr (.inr g.1), g.2.1⟩)
end
end Go.Proofs.YtfclkapelkhlpaaGreatDoor
namespace Go.Proofs.YtfclkapelkhlpaaGreatDoor
open Go Go.Proofs Go.LX
section
variable {a : List bL} {pre : List LX.Frame} {f : LX.Frame} {cells : List (List Val)} {st wh : Int} {x : bL} {c : Ins} {N : Nat}
theorem qO (h : mE a pre f cells x c) : eO N ⟨pre ++ [f], cells, st, wh⟩ a = dC N ⟨pre ++ [f], cells, st, wh⟩ c a (pre ++ [Ev f x]) := by
  have hm := h.many
  have hat := h.fr.at_
  have hl := h.proc.2
  unfold tH at hl
  unfold eO
  simp only [je]
  rw [gI (by omega) (by omega), mJ, bnd, h.fr.proc, bnd, h.ins, bnd, gI (by omega) (by omega)]
  by_cases hc : f.at_ < (x.code.length : Int) - 1
  · rw [dT hc, cond_true, gI (by omega) (by omega), Int.toNat_natCast, kC]
    have e : Ev f x = { f with at_ := f.at_ + 1 } := by unfold Ev; rw [show min (f.at_ + 1) ((x.code.length : Int) - 1) = f.at_ + 1 by omega]
    rw [e]
  · rw [dF hc, cond_false]
    have e : Ev f x = f := by unfold Ev; rw [show min (f.at_ + 1) ((x.code.length : Int) - 1) = f.at_ by omega]
    rw [e]
theorem Fw (h : mE a pre f cells x c) {i : Int} (hi : vV x.regs i) : idx (Ev f x).regs i = some (kR f.regs i) := (h.reg hi).1
theorem ref1 (h : mE a pre f cells x c) (hop : c.op = 1) (hr : vV x.regs c.a) : R2 (eO N ⟨pre ++ [f], cells, st, wh⟩ a) (jh a pre f cells st wh x c) := by
  rw [qO h]
  unfold dC jh
  simp only [hop, Int.reduceEq, decide_true, decide_false, cond_true, cond_false, if_true, if_false, je, mJ, bnd, Fw h hr, Int.toNat_natCast, kC]
  exact ⟨_, _, _, _, rfl, rfl, rfl, rfl, rfl⟩
theorem ref2 (h : mE a pre f cells x c) (hop : c.op = 2) (hr : vV x.regs c.a) (hb : vV x.regs c.b) : R2 (eO N ⟨pre ++ [f], cells, st, wh⟩ a) (jh a pre f cells st wh x c) := by
  rw [qO h]
  unfold dC jh
  simp only [hop, Int.reduceEq, decide_true, decide_false, cond_true, cond_false, if_true, if_false, je, mJ, bnd, Fw h hr, Fw h hb, Int.toNat_natCast, kC]
  exact ⟨_, _, _, _, rfl, rfl, rfl, rfl, rfl⟩
theorem ref3 (h : mE a pre f cells x c) (hop : c.op = 3) (hr : vV x.regs c.a) (hb : vV x.regs c.b) (hc : vV x.regs c.c) {n : Int} (hn : c.args = [n]) (hn2 : 1 ≤ n ∧ n ≤ 5) : R2 (eO N ⟨pre ++ [f], cells, st, wh⟩ a) (jh a pre f cells st wh x c) := by
  rw [qO h]
  obtain ⟨v, h1, h2⟩ := XR hn2 (h.reg hb).2 (h.reg hc).2
  unfold dC jh rP
  simp only [hop, hn, Int.reduceEq, decide_true, decide_false, cond_true, cond_false, if_true, if_false, je, mJ, bnd, Fw h hr, Fw h hb, Fw h hc, Int.toNat_natCast, kC, Ec, h1, List.headD_cons]
  cases e : opP n (kR f.regs c.b) (kR f.regs c.c) with
  | none => exact ⟨_, _, _, _, rfl, rfl⟩
  | some w => rw [h2 w e]; exact ⟨_, _, _, _, rfl, rfl, rfl, rfl, rfl⟩
theorem Pf {α : Type} {l : List α} (h : 1 ≤ l.length) : l ≠ [] := fun e => by subst e; simp at h
theorem ref4 (h : mE a pre f cells x c) (hop : c.op = 4) (hr : vV x.regs c.a) (hb : vV x.regs c.b) (hc : 0 ≤ c.c ∧ c.c < 4) : R2 (eO N ⟨pre ++ [f], cells, st, wh⟩ a) (jh a pre f cells st wh x c) := by
  rw [qO h]
  have hv := h.reg hb
  unfold dC jh ni
  simp only [hop, Int.reduceEq, decide_true, decide_false, cond_true, cond_false, if_true, if_false, je, mJ, bnd, Fw h hr, Fw h hb, Int.toNat_natCast, kC]
  by_cases hk : (kR f.regs c.b).kind = 2
  · have hcell := I8 h.O9 hv.2 hk
    rw [dF (by omega), cond_false, hcell.1]
    simp only [bnd]
    by_cases hl : ((cellAt cells (kR f.regs c.b).n).length : Int) ≤ c.c
    · rw [dT hl, cond_true, if_pos (by omega)]
      exact ⟨_, _, _, _, rfl, rfl⟩
    · rw [dF hl, cond_false, if_neg (by omega), oq (Pf hcell.2.1), Lt hc.1 (by omega), bnd]
      exact ⟨_, _, _, _, rfl, rfl, rfl, rfl, rfl⟩
  · rw [dT hk, cond_true, if_pos (.inl hk)]
    exact ⟨_, _, _, _, rfl, rfl⟩
theorem ref6 (h : mE a pre f cells x c) (hop : c.op = 6) (hr : vV x.regs c.a) (hb : vV x.regs c.b) (hc : 0 ≤ c.c ∧ c.c < 4) : R2 (eO N ⟨pre ++ [f], cells, st, wh⟩ a) (jh a pre f cells st wh x c) := by
  rw [qO h]
  have hv := h.reg hr
  unfold dC jh nk
  simp only [hop, Int.reduceEq, decide_true, decide_false, cond_true, cond_false, if_true, if_false, je, mJ, bnd, Fw h hr, Fw h hb, Int.toNat_natCast, kC]
  by_cases hk : (kR f.regs c.a).kind = 2
  · have hcell := I8 h.O9 hv.2 hk
    rw [dF (by omega), cond_false, hcell.1]
    simp only [bnd]
    by_cases hl : ((cellAt cells (kR f.regs c.a).n).length : Int) ≤ c.c
    · rw [dT hl, cond_true, if_pos (by omega)]
      exact ⟨_, _, _, _, rfl, rfl⟩
    · rw [dF hl, cond_false, if_neg (by omega), oq (Pf hcell.2.1), Lt hc.1 (by omega), bnd]
      exact ⟨_, _, _, _, rfl, rfl, rfl, rfl, rfl⟩
  · rw [dT hk, cond_true, if_pos (.inl hk)]
    exact ⟨_, _, _, _, rfl, rfl⟩
theorem VE (p2 : List LX.Frame) (g : LX.Frame) (cs : List (List Val)) (hl : p2.length ≤ 20) (hcs : cs.length ≤ 24) (hr : vV g.regs.length c.a) (hb : 1 ≤ c.b ∧ c.b ≤ 4) : R2 (kQ c a (p2 ++ [g]) cs st wh) ((NY ⟨p2 ++ [g], cs, st, wh⟩ c).map fun t => (t, none, false)) := by
  unfold kQ NY
  simp only [je]
  by_cases h : cs.length = 24
  · rw [dT (by omega), cond_true, if_pos h]; exact ⟨_, _, _, _, rfl, rfl⟩
  · rw [dF (by omega), cond_false, if_neg h, gI (by omega) (by omega), mJ, bnd, (Bw rfl hr).1, bnd, oq (by omega), oq (room_le (by simp; omega) (by decide)), Int.toNat_natCast, kC]
    refine ⟨_, _, _, _, rfl, rfl, ?_, rfl, rfl⟩
    simp
theorem ref5 (ha : lZ a) (hN : 100 ≤ N) (h : mE a pre f cells x c) (hop : c.op = 5) (hr : vV x.regs c.a) (hb : 1 ≤ c.b ∧ c.b ≤ 4) : R2 (eO N ⟨pre ++ [f], cells, st, wh⟩ a) (jh a pre f cells st wh x c) := by
  rw [qO h]
  unfold dC jh
  simp only [hop, Int.reduceEq, decide_true, decide_false, cond_true, cond_false, if_true, if_false, je, mJ, bnd, Fw h hr]
  have hm := h.many
  have hsw := mE.sw ha h (st := st) (wh := wh) h.Ev
  have hrr : vV (Ev f x).regs.length c.a := by have := h.Ev.regs; rw [this]; exact hr
  by_cases h24 : cells.length = 24
  · rw [dT (by omega), cond_true, if_pos h24, swept_eq hN hsw, bnd, Kr]
    exact VE _ _ _ (by simp; omega) (Pb hsw).2 (by simpa [Gf] using hrr) hb
  · rw [dF (by omega), cond_false, if_neg h24]
    exact VE _ _ _ (by omega) h.O9.1 hrr hb
theorem ref7 (ha : lZ a) (h : mE a pre f cells x c) (hop : c.op = 7) (hr : vV x.regs c.a) {p : bL} (hp : idx a c.b = some p) (hl : (c.args.length : Int) = p.params) (hargs : ∀ k ∈ c.args, vV x.regs k) : R2 (eO N ⟨pre ++ [f], cells, st, wh⟩ a) (jh a pre f cells st wh x c) := by
  rw [qO h]
  unfold dC jh
  simp only [hop, Int.reduceEq, decide_true, decide_false, cond_true, cond_false, if_true, if_false, je, mJ, bnd, Fw h hr]
  have hm := h.many
  have hpr := ha.mem hp
  by_cases h10 : pre.length + 1 = 10
  · rw [dT (by simp; omega), cond_true, if_pos h10]; exact ⟨_, _, _, _, rfl, rfl⟩
  · rw [dF (by simp; omega), cond_false, if_neg h10, hp, bnd, oq (by omega)]
    have QM := Kt (K := jy (pre ++ [Ev f x]) c a ⟨pre ++ [f], cells, st, wh⟩) (body := jw (Ev f x)) (r := kR f.regs) (P := fun k => vV x.regs k) (fun i k y nx hi hk => by
      unfold jw
      rw [Fw h hk, bnd, xw hi, bnd, Int.toNat_natCast]) c.args [] (List.replicate p.regs.toNat ⟨0, 0⟩) hargs (by simp; omega)
    have UG : dW (jw (Ev f x)) (jy (pre ++ [Ev f x]) c a ⟨pre ++ [f], cells, st, wh⟩) 0 c.args (List.replicate p.regs.toNat ⟨0, 0⟩) = _ := QM
    rw [UG]
    unfold jy
    rw [oq (room_le (by simp; omega) (by decide))]
    refine ⟨_, _, _, _, rfl, rfl, ?_, rfl, rfl⟩
    simp only [List.nil_append, List.drop_replicate, hp, Option.map_some, Option.getD_some]
    rw [show p.regs.toNat - c.args.length = (p.regs - (c.args.length : Int)).toNat by omega]
theorem ref8 (ha : lZ a) (h : mE a pre f cells x c) (hop : c.op = 8) (hr : vV x.regs c.a) : R2 (eO N ⟨pre ++ [f], cells, st, wh⟩ a) (jh a pre f cells st wh x c) := by
  rw [qO h]
  unfold dC jh
  simp only [hop, Int.reduceEq, decide_true, decide_false, cond_true, cond_false, if_true, if_false, je, mJ, bnd, Fw h hr, Int.toNat_natCast]
  have hm := h.many
  rw [gI (by omega) (by omega)]
  rw [show sub? (pre ++ [Ev f x]) 0 (pre.length : Int) = some pre by unfold sub?; rw [if_pos (by simp; omega)]; simp [cut], bnd]
  rw [show (pre ++ [Ev f x]).take pre.length = pre by simp]
  have e2 : (Ev f x).lW = f.lW := rfl
  rcases List.eq_nil_or_concat pre with hp | ⟨q, g, hp⟩
  · subst hp
    exact ⟨_, _, _, _, rfl, rfl, rfl, rfl, rfl⟩
  · rw [List.concat_eq_append] at hp
    subst hp
    have hto := h.lW
    rw [Ed] at hto
    simp only [List.length_append, List.length_cons, List.length_nil] at hm
    rw [dF (by simp; omega), cond_false, je, gI (by omega) (by omega), mJ, bnd, e2, (Bw rfl hto).1, bnd, Int.toNat_natCast, kC]
    simp only [List.getLast?_append, List.getLast?_singleton, Option.some_or, List.dropLast_concat]
    exact ⟨_, _, _, _, rfl, rfl, rfl, rfl, rfl⟩
theorem Fx (h : mE a pre f cells x c) (hop : (c.op = 9 ∨ c.op = 11 ∨ c.op = 13) ∧ vV x.regs c.a ∨ c.op = 10 ∨ c.op = 12) : R2 (eO N ⟨pre ++ [f], cells, st, wh⟩ a) (jh a pre f cells st wh x c) := by
  rw [qO h]
  rcases hop with ⟨hop | hop | hop, hr⟩ | hop | hop
  · unfold dC jh gV
    simp only [hop, Int.reduceEq, decide_true, decide_false, cond_true, cond_false, if_true, if_false, je, mJ, bnd, Fw h hr, Int.toNat_natCast, kC]
    by_cases hk : (kR f.regs c.a).kind = 1
    · rw [dF (by omega), cond_false, if_pos hk]; exact ⟨_, _, _, _, rfl, rfl, rfl, rfl, rfl⟩
    · rw [dT hk, cond_true, if_neg hk]; exact ⟨_, _, _, _, rfl, rfl⟩
  · unfold dC jh gV
    simp only [hop, Int.reduceEq, decide_true, decide_false, cond_true, cond_false, if_true, if_false, je, mJ, bnd, Fw h hr, Int.toNat_natCast, kC]
    by_cases hk : (kR f.regs c.a).kind = 1
    · rw [dF (by omega), cond_false, if_pos hk]; exact ⟨_, _, _, _, rfl, rfl, rfl, rfl, rfl⟩
    · rw [dT hk, cond_true, if_neg hk]; exact ⟨_, _, _, _, rfl, rfl⟩
  · unfold dC jh gV
    simp only [hop, Int.reduceEq, decide_true, decide_false, cond_true, cond_false, if_true, if_false, je, mJ, bnd, Fw h hr, Int.toNat_natCast, kC]
    by_cases hk : (kR f.regs c.a).kind ≠ 2 ∧ (kR f.regs c.a).n = 0
    · rw [if_pos hk, dT hk.1, dT hk.2, Bool.true_and, cond_true]
      exact ⟨_, _, _, _, rfl, rfl, rfl, rfl, rfl⟩
    · rw [if_neg hk, show (decide ((kR f.regs c.a).kind ≠ 2) && decide ((kR f.regs c.a).n = 0)) = false by rw [Bool.and_eq_false_iff]; simp only [decide_eq_false_iff_not]; omega, cond_false]
      exact ⟨_, _, _, _, rfl, rfl, rfl, rfl, rfl⟩
  · unfold dC jh gV
    simp only [hop, Int.reduceEq, decide_true, decide_false, cond_true, cond_false, if_true, if_false, je, mJ, bnd]
    exact ⟨_, _, _, _, rfl, rfl, rfl, rfl, rfl⟩
  · unfold dC jh gV
    simp only [hop, Int.reduceEq, decide_true, decide_false, cond_true, cond_false, if_true, if_false, je, mJ, bnd, Int.toNat_natCast, kC]
    exact ⟨_, _, _, _, rfl, rfl, rfl, rfl, rfl⟩
theorem UI (ha : lZ a) (hN : 100 ≤ N) (h : mE a pre f cells x c) : R2 (eO N ⟨pre ++ [f], cells, st, wh⟩ a) (jh a pre f cells st wh x c) := by
  rcases h.good with g | g | g | g | g | g | g | g | g | g
  · exact ref1 h g.1 g.2.1
  · exact ref2 h g.1 g.2.1 g.2.2
  · obtain ⟨g1, g2, g3, g4, n, g5, g6, g7⟩ := g
    exact ref3 h g1 g2 g3 g4 g5 ⟨g6, g7⟩
  · obtain ⟨g1 | g1, g2, g3, g4⟩ := g
    · exact ref4 h g1 g2 g3 g4
    · exact ref6 h g1 g2 g3 g4
  · exact ref5 ha hN h g.1 g.2.1 g.2.2
  · obtain ⟨g1, g2, ⟨p, g3, g4⟩, g5⟩ := g
    exact ref7 ha h g1 g2 g3 g4 g5
  · obtain ⟨g1 | g1 | g1, g2⟩ := g
    · exact ref8 ha h g1 g2
    · exact Fx h (.inl ⟨.inl g1, g2⟩)
    · exact Fx h (.inl ⟨.inr (.inl g1), g2⟩)
  · exact Fx h (.inr (.inl g))
  · exact Fx h (.inr (.inr g.1))
  · exact Fx h (.inl ⟨.inr (.inr g.1), g.2.1⟩)
end
end Go.Proofs.YtfclkapelkhlpaaGreatDoor
namespace Go.Proofs.YtfclkapelkhlpaaGreatDoor
open Go Go.Proofs Go.LX
theorem jf.up {n m : Nat} {v : Val} (h : jf n v) (hm : n ≤ m) : jf m v := by unfold jf at *; omega
theorem Cg.up {a : List bL} {n m : Nat} {f : LX.Frame} {x : bL} (h : Cg a n f x) (hm : n ≤ m) : Cg a m f x := ⟨h.proc, h.at_, h.regs, fun v hv => (h.vals v hv).up hm⟩
theorem Fy {a : List bL} {n m : Nat} (hm : n ≤ m) : ∀ {l : List LX.Frame} {t : Int}, lM a n t l → lM a m t l
  | [], _, _ => trivial
  | f :: l, t, h => by obtain ⟨⟨x, g⟩, h2, h3⟩ := h; exact ⟨⟨x, g.up hm⟩, h2, Fy hm h3⟩
theorem ren_ok {n : Nat} {l : List Int} {v : Val} (h : jf n v) (hr : v.kind = 2 → v.n ∈ l) : jf l.length (ren l v) := by
  unfold ren
  by_cases hk : v.kind = 2
  · rw [if_pos hk]
    have := List.idxOf_lt_length_of_mem (hr hk)
    unfold jf
    simp only
    omega
  · rw [if_neg hk]; unfold jf at *; omega
theorem Cg.ren {a : List bL} {n : Nat} {l : List Int} {f : LX.Frame} {x : bL} (h : Cg a n f x) (hr : kY f.regs l) : Cg a l.length (Gf l f) x where
  proc := h.proc
  at_ := h.at_
  regs := by unfold Gf; simpa using h.regs
  vals v hv := by
    unfold Gf at hv
    simp only [List.mem_map] at hv
    obtain ⟨w, hw, rfl⟩ := hv
    exact ren_ok (h.vals w hw) (hr w hw)
theorem I9 {a : List bL} {n : Nat} {r : List Int} : ∀ {l : List LX.Frame} {t : Int}, lM a n t l → (∀ f ∈ l, kY f.regs r) → lM a r.length t (l.map (Gf r))
  | [], _, _, _ => trivial
  | f :: l, t, h, hr => by
    obtain ⟨⟨x, g⟩, h2, h3⟩ := h
    refine ⟨⟨x, g.ren (hr f (by simp))⟩, h2, ?_⟩
    have := I9 h3 (fun k hk => hr k (List.mem_cons_of_mem _ hk))
    simpa [Gf] using this
theorem Sm {s : LX.State} (h : K9 s) : oo (uq s).cells := by
  have hr := h.reach
  have hl := hr.1.len
  have hn := h.cells.1
  refine ⟨by simp [uq]; omega, fun c hc => ?_⟩
  unfold uq at hc ⊢
  simp only [List.mem_map, List.length_map] at hc ⊢
  obtain ⟨k, hk, rfl⟩ := hc
  have hk2 := h.cells.at (hr.1.2 k hk)
  refine ⟨by simpa using hk2.1, fun v hv => ?_⟩
  obtain ⟨w, hw, rfl⟩ := List.mem_map.1 hv
  exact ren_ok (hk2.2 w hw) (hr.2.2 k hk w hw)
theorem sweep_ok {a : List bL} (ha : lZ a) {s : LX.State} (h : vN a s) : vN a (uq s) where
  status := h.status
  aL := h.aL
  stay := h.stay
  ended := by rw [show (uq s).status = s.status from rfl, h.ended]; simp [uq]
  many := by simpa [uq] using h.many
  cells := Sm (h.sw ha)
  frames := by
    have hr := (h.sw ha).reach
    have := I9 h.frames (Ns hr.2.1)
    simpa [uq] using this
theorem Sn {n : Nat} {r : List Val} {i : Nat} {v : Val} (h : ∀ w ∈ r, jf n w) (hv : jf n v) : ∀ w ∈ r.set i v, jf n w := fun w hw => by
  rcases List.mem_or_eq_of_mem_set hw with hw | rfl
  · exact h w hw
  · exact hv
section
variable {a : List bL} {pre : List LX.Frame} {f : LX.Frame} {cells : List (List Val)} {wh : Int} {x : bL} {c : Ins} {N : Nat}
theorem mE.st (h : mE a pre f cells x c) {g : LX.Frame} {y : bL} {cs : List (List Val)} {s w : Int} (hg : Cg a cs.length g y) (hto : g.lW = f.lW) (hc : oo cs) (hl : cells.length ≤ cs.length) (hs : (s = 0 ∧ w = 0) ∨ (s = 3 ∧ -1000000000 ≤ w ∧ w ≤ 1000000000)) : vN a ⟨pre ++ [g], cs, s, w⟩ where
  status := by simp only; omega
  aL := by simp only; omega
  stay := by simp only; omega
  ended := by simp; omega
  many := by have := h.many; simp; omega
  cells := hc
  frames := oz.2 ⟨Fy hl h.chain, ⟨y, hg⟩, by rw [hto]; exact h.lW⟩
theorem opP_ok {n : Nat} {k : Int} {b c v : Val} (hk : 1 ≤ k ∧ k ≤ 5) (h : opP k b c = some v) : jf n v := by
  unfold opP at h
  split at h
  · cases h; split <;> (unfold jf; simp)
  split at h
  · cases h
  split at h
  · cases h; split <;> (unfold jf; simp)
  simp only at h
  generalize (if k = 1 then b.n + c.n else if k = 2 then b.n - c.n else b.n * c.n) = z at h
  split at h
  · rename_i hz; cases h; exact .inr (.inl ⟨rfl, hz.1, hz.2⟩)
  · cases h
theorem Cg.put {n : Nat} {f : LX.Frame} {x : bL} (h : Cg a n f x) {i : Nat} {v : Val} (hv : jf n v) : Cg a n { f with regs := f.regs.set i v } x := ⟨h.proc, h.at_, by simpa using h.regs, Sn h.vals hv⟩
theorem Cg.jump {n : Nat} {f : LX.Frame} {x : bL} (h : Cg a n f x) {b : Int} (hb : 0 ≤ b ∧ b < x.code.length) : Cg a n { f with at_ := b } x := ⟨h.proc, hb, h.regs, h.vals⟩
theorem VF {s t : LX.State} {g : LX.Frame} (h : NY ⟨pre ++ [g], cells, 0, wh⟩ c = some t) (hs : vN a ⟨pre ++ [g], cells, 0, wh⟩) (hb : 1 ≤ c.b ∧ c.b ≤ 4) : vN a t ∧ t.status = 0 := by
  unfold NY at h
  split at h
  · cases h
  rename_i h24
  simp only [List.dropLast_concat, List.getLast?_append, List.getLast?_singleton, Option.some_or, Option.map_some, Option.toList_some] at h h24
  cases h
  obtain ⟨h1, ⟨x, h2⟩, h3⟩ := oz.1 hs.frames
  have hc := hs.cells
  simp only at h1 h2 h3 hc
  have hle : cells.length ≤ (cells ++ [List.replicate c.b.toNat (⟨0, 0⟩ : Val)]).length := by simp
  refine ⟨⟨hs.status, hs.aL, hs.stay, by simp, by simpa using hs.many, ⟨?_, ?_⟩, oz.2 ⟨Fy hle h1, ⟨x, (h2.up hle).put ?_⟩, h3⟩⟩, rfl⟩
  · have := hc.1; simp; omega
  · intro d hd
    rcases List.mem_append.1 hd with hd | hd
    · have := hc.2 d hd
      exact ⟨this.1, fun v hv => (this.2 v hv).up hle⟩
    · simp at hd; subst hd
      refine ⟨by simp; omega, fun v hv => ?_⟩
      have := List.eq_of_mem_replicate hv
      subst this
      unfold jf; simp
  · unfold jf; simp; try omega
theorem UJ (ha : lZ a) (h : mE a pre f cells x c) (hw : wh = 0) {t : LX.State} {said : Option Int} {p : Bool} (hs : jh a pre f cells 0 wh x c = some (t, said, p)) :
    vN a t ∧ (t.status = 0 ∨ t.status = 1 ∧ p = false ∨ t.status = 3 ∧ p = true) ∧ (said.isSome → t.status = 0 ∧ c.op = 9) := by
  subst hw
  have XV := h.Ev
  have hput : ∀ {v : Val}, jf cells.length v → vN a ⟨pre ++ [{ Ev f x with regs := f.regs.set c.a.toNat v }], cells, 0, 0⟩ := fun hv => h.st (XV.put hv) rfl h.O9 (Nat.le_refl _) (.inl ⟨rfl, rfl⟩)
  have Pg : vN a ⟨pre ++ [Ev f x], cells, 0, 0⟩ := h.st XV rfl h.O9 (Nat.le_refl _) (.inl ⟨rfl, rfl⟩)
  have hjump : (0 ≤ c.b ∧ c.b < x.code.length) → vN a ⟨pre ++ [{ Ev f x with at_ := c.b }], cells, 0, 0⟩ := fun hb => h.st (XV.jump hb) rfl h.O9 (Nat.le_refl _) (.inl ⟨rfl, rfl⟩)
  unfold jh at hs
  rcases h.good with g | g | g | g | g | g | g | g | g | g
  · obtain ⟨hop, hr, hb⟩ := g
    simp only [hop, Int.reduceEq, if_true, if_false] at hs
    cases hs
    exact ⟨hput (.inr (.inl ⟨rfl, hb.1, hb.2⟩)), .inl rfl, by simp⟩
  · obtain ⟨hop, hr, hb⟩ := g
    simp only [hop, Int.reduceEq, if_true, if_false] at hs
    cases hs
    exact ⟨hput (h.reg hb).2, .inl rfl, by simp⟩
  · obtain ⟨hop, hr, hb, hc, n, hn, hn1⟩ := g
    simp only [hop, hn, Int.reduceEq, if_true, if_false, List.headD_cons] at hs
    obtain ⟨v, hv, hs⟩ := Option.map_eq_some_iff.1 hs
    cases hs
    exact ⟨hput (opP_ok hn1 hv), .inl rfl, by simp⟩
  · obtain ⟨hop, hr, hb, hc⟩ := g
    rcases hop with hop | hop
    · simp only [hop, Int.reduceEq, if_true, if_false] at hs
      split at hs
      · cases hs
      · rename_i hbad
        cases hs
        have hk : (kR f.regs c.b).kind = 2 := by omega
        have hv := (h.reg hb).2
        have hcell := h.O9.at (hv.ref hk)
        exact ⟨hput (hcell.2 _ (Bw rfl ⟨hc.1, by omega⟩).2), .inl rfl, by simp⟩
    · simp only [hop, Int.reduceEq, if_true, if_false] at hs
      split at hs
      · cases hs
      · rename_i hbad
        cases hs
        have hk : (kR f.regs c.a).kind = 2 := by omega
        have hv := (h.reg hr).2
        have hcell := h.O9.at (hv.ref hk)
        refine ⟨h.st (by simpa using XV) rfl ⟨by simpa using h.O9.1, fun d hd => ?_⟩ (by simp) (.inl ⟨rfl, rfl⟩), .inl rfl, by simp⟩
        rw [List.length_set]
        rcases List.mem_or_eq_of_mem_set hd with hd | rfl
        · exact h.O9.2 d hd
        · exact ⟨by simpa using hcell.1, Sn hcell.2 (h.reg hb).2⟩
  · obtain ⟨hop, hr, hb⟩ := g
    simp only [hop, Int.reduceEq, if_true, if_false] at hs
    obtain ⟨u, hu, hs⟩ := Option.map_eq_some_iff.1 hs
    cases hs
    split at hu
    · have hsw := sweep_ok ha Pg
      rw [Kr] at hu hsw
      have := VF (s := t) hu hsw hb
      exact ⟨this.1, .inl this.2, by simp⟩
    · have := VF (s := t) hu Pg hb
      exact ⟨this.1, .inl this.2, by simp⟩
  · obtain ⟨hop, hr, ⟨p1, hp, hl⟩, hargs⟩ := g
    simp only [hop, Int.reduceEq, if_true, if_false] at hs
    split at hs
    · cases hs
    · rename_i h10
      cases hs
      have hpr := ha.mem hp
      have hm := h.many
      refine ⟨⟨by simp, by simp, by simp, by simp, by simp; omega, h.O9, oz.2 ⟨Pg.frames, ⟨p1, ⟨hp, ?_, ?_, ?_⟩⟩, ?_⟩⟩, .inl rfl, by simp⟩
      · have := hpr.2.2.2; unfold tH at this; simp only; omega
      · simp only [hp, Option.map_some, Option.getD_some, List.length_append, List.length_map, List.length_replicate]; omega
      · intro v hv
        rcases List.mem_append.1 hv with hv | hv
        · obtain ⟨k, hk, rfl⟩ := List.mem_map.1 hv
          exact (h.reg (hargs k hk)).2
        · have := List.eq_of_mem_replicate hv
          subst this; unfold jf; simp
      · simp only [List.getLast?_append, List.getLast?_singleton, Option.some_or]
        have h1 := XV.regs
        rw [h1]; exact hr
  · obtain ⟨hop, hr⟩ := g
    rcases hop with hop | hop | hop
    · simp only [hop, Int.reduceEq, if_true, if_false] at hs
      rcases List.eq_nil_or_concat pre with hp | ⟨q, g, hp⟩
      · subst hp
        simp only [List.getLast?_nil] at hs
        cases hs
        exact ⟨⟨by simp, by simp, by simp, by simp, by simp, h.O9, trivial⟩, .inr (.inl ⟨rfl, rfl⟩), by simp⟩
      · rw [List.concat_eq_append] at hp
        subst hp
        simp only [List.getLast?_append, List.getLast?_singleton, Option.some_or, List.dropLast_concat] at hs
        cases hs
        obtain ⟨c1, ⟨y, c2⟩, c3⟩ := oz.1 h.chain
        have hm := h.many
        simp only [List.length_append, List.length_cons, List.length_nil] at hm
        exact ⟨⟨by simp, by simp, by simp, by simp, by simp; omega, h.O9, oz.2 ⟨c1, ⟨y, c2.put (h.reg hr).2⟩, c3⟩⟩, .inl rfl, by simp⟩
    · simp only [hop, Int.reduceEq, if_true, if_false] at hs
      split at hs
      · cases hs; exact ⟨Pg, .inl rfl, fun _ => ⟨rfl, hop⟩⟩
      · cases hs
    · simp only [hop, Int.reduceEq, if_true, if_false] at hs
      split at hs
      · rename_i hk
        cases hs
        exact ⟨h.st XV rfl h.O9 (Nat.le_refl _) (.inr ⟨rfl, (h.reg hr).2.int hk⟩), .inr (.inr ⟨rfl, rfl⟩), by simp⟩
      · cases hs
  · simp only [g, Int.reduceEq, if_true, if_false] at hs
    cases hs; exact ⟨Pg, .inl rfl, by simp⟩
  · obtain ⟨hop, hb⟩ := g
    simp only [hop, Int.reduceEq, if_true, if_false] at hs
    cases hs; exact ⟨hjump hb, .inl rfl, by simp⟩
  · obtain ⟨hop, hr, hb⟩ := g
    simp only [hop, Int.reduceEq, if_true, if_false] at hs
    cases hs
    split
    · exact ⟨hjump hb, .inl rfl, by simp⟩
    · exact ⟨Pg, .inl rfl, by simp⟩
end
end Go.Proofs.YtfclkapelkhlpaaGreatDoor
namespace Go.Proofs.YtfclkapelkhlpaaGreatDoor
open Go Go.Proofs Go.LX
def VG (a : List bL) (f : LX.Frame) : Option (bL × Ins) := (idx a f.proc).bind fun x => (idx x.code f.at_).map fun c => (x, c)
def Bz (a : List bL) (s : LX.State) : Option (LX.State × Option Int × Bool) :=
  s.frames.getLast?.bind fun f => (VG a f).bind fun q => jh a s.frames.dropLast f s.cells s.status s.aL q.1 q.2
def El (a : List bL) (s : LX.State) : Int := ((s.frames.getLast?.bind fun f => VG a f).map fun q => q.2.op).getD 0
def pK (a : List bL) : Nat → List Int → Nat → LX.State → LX.State × List Int × Nat
  | 0, said, n, s => (s, said, n)
  | m + 1, said, n, s =>
    if s.status ≠ 0 then (s, said, n) else
    if said.length = 40 ∧ El a s = 9 then (s, said, n) else
    match Bz a s with
    | none => ({ s with status := 2 }, said, n + 1)
    | some (t, o, p) => if p then (t, said ++ o.toList, n + 1) else pK a m (said ++ o.toList) (n + 1) t
theorem F6 {a : List bL} (ha : lZ a) {s : LX.State} (h : vN a s) (hs : s.status = 0) : ∃ pre f x c, s = ⟨pre ++ [f], s.cells, 0, 0⟩ ∧ mE a pre f s.cells x c ∧ Bz a s = jh a pre f s.cells 0 0 x c ∧ El a s = c.op := by
  obtain ⟨fr, cells, st, wh⟩ := s
  simp only at hs
  subst hs
  have hw : wh = 0 := h.stay (by simp)
  subst hw
  rcases List.eq_nil_or_concat fr with hp | ⟨pre, f, hp⟩
  · have := h.ended.2 hp; simp at this
  · rw [List.concat_eq_append] at hp
    subst hp
    obtain ⟨x, c, g⟩ := top_ok ha h
    refine ⟨pre, f, x, c, rfl, g, ?_, ?_⟩
    · unfold Bz VG
      simp only [List.getLast?_append, List.getLast?_singleton, Option.some_or, List.dropLast_concat, bnd, g.fr.proc, g.ins, Option.map_some]
    · unfold El VG
      simp only [List.getLast?_append, List.getLast?_singleton, Option.some_or, bnd, g.fr.proc, g.ins, Option.map_some, Option.getD_some]
theorem XW {a : List bL} (ha : lZ a) {s : LX.State} (h : vN a s) (hs : s.status = 0) {N : Nat} (hN : 100 ≤ N) : R1 (tq N s a) (Bz a s) := by
  obtain ⟨pre, f, x, c, h1, h2, h3, -⟩ := F6 ha h hs
  rw [h3]
  generalize s.cells = cells at *
  subst h1
  exact UH ha hN h2
theorem XX {a : List bL} (ha : lZ a) {s : LX.State} (h : vN a s) (hs : s.status = 0) {N : Nat} (hN : 100 ≤ N) : R2 (eO N s a) (Bz a s) := by
  obtain ⟨pre, f, x, c, h1, h2, h3, -⟩ := F6 ha h hs
  rw [h3]
  generalize s.cells = cells at *
  subst h1
  exact UI ha hN h2
theorem Fz {a : List bL} (ha : lZ a) {s : LX.State} (h : vN a s) (hs : s.status = 0) {t : LX.State} {o : Option Int} {p : Bool} (hq : Bz a s = some (t, o, p)) :
    vN a t ∧ (t.status = 0 ∨ t.status = 1 ∧ p = false ∨ t.status = 3 ∧ p = true) ∧ (o.isSome → t.status = 0 ∧ El a s = 9) := by
  obtain ⟨pre, f, x, c, h1, h2, h3, h4⟩ := F6 ha h hs
  rw [h3] at hq
  rw [h4]
  exact UJ ha h2 rfl hq
theorem Ph {a : List bL} (ha : lZ a) {s : LX.State} (h : vN a s) (hs : s.status = 0) : (s.frames.length ≤ 10 ∧ 1 ≤ s.frames.length) ∧ ∃ f x c, idx s.frames ((s.frames.length : Int) - 1) = some f ∧ idx a f.proc = some x ∧ idx x.code f.at_ = some c ∧ c.op = El a s := by
  obtain ⟨pre, f, x, c, h1, h2, h3, h4⟩ := F6 ha h hs
  refine ⟨⟨h.many, by rw [h1]; simp⟩, f, x, c, ?_, h2.fr.proc, h2.ins, h4.symm⟩
  have : s.frames = pre ++ [f] := by rw [h1]
  rw [this, je, mJ]
theorem fail_ok {a : List bL} {s : LX.State} (h : vN a s) (hs : s.status = 0) : vN a { s with status := 2 } := by
  have hw : s.aL = 0 := h.stay (by omega)
  refine ⟨by simp, h.aL, fun _ => hw, ?_, h.many, h.cells, h.frames⟩
  constructor
  · intro e; simp at e
  · intro e
    have := h.ended.2 e
    omega
theorem Sq {a : List bL} (ha : lZ a) {N : Nat} (hN : 100 ≤ N) (c : Int) : ∀ (m M : Nat) (said : List Int) (n : Nat) (s : LX.State), vN a s → said.length ≤ 40 → c = (n : Int) + m → c ≤ 2000 → m < M →
    again (wI N c a) M (said, (n : Int), s.frames, s.cells, s.status, s.aL) = some ((pK a m said n s).1, (pK a m said n s).2.1, ((pK a m said n s).2.2 : Int), 0)
  | m, 0, said, n, s, h, hl, hc, hb, hM => by omega
  | 0, M + 1, said, n, s, h, hl, hc, hb, hM => by
    rw [xY]
    unfold wI wX pK
    simp only
    rw [show (decide ((n : Int) < c) && decide ((s.status : Int) = 0)) = false by rw [dF (by omega)]; rfl, cond_false]
  | m + 1, M + 1, said, n, s, h, hl, hc, hb, hM => by
    rw [xY]
    have ih := Sq ha hN c m M
    generalize again (wI N c a) M = K at ih ⊢
    unfold wI pK
    simp only
    by_cases hs : s.status = 0
    · rw [dT (by omega), dT hs, Bool.true_and, cond_true, if_neg (by omega)]
      obtain ⟨hfr, f, x, i, r1, r2, r3, r4⟩ := Ph ha h hs
      rw [gI (by omega) (by omega), r1, bnd]
      have go : Bh N said n s.frames s.cells s.status s.aL a K false = some (match Bz a s with
          | none => ({ s with status := 2 }, said, ((n + 1 : Nat) : Int), 0)
          | some (t, o, p) => if p then (t, said ++ o.toList, ((n + 1 : Nat) : Int), 0) else ((pK a m (said ++ o.toList) (n + 1) t).1, (pK a m (said ++ o.toList) (n + 1) t).2.1, ((pK a m (said ++ o.toList) (n + 1) t).2.2 : Int), 0)) ∨ (said.length = 40 ∧ El a s = 9) := by
        by_cases hstop : said.length = 40 ∧ El a s = 9
        · exact .inr hstop
        left
        unfold Bh
        rw [cond_false, show (⟨s.frames, s.cells, s.status, s.aL⟩ : LX.State) = s from rfl, copy_eq (h.small ha), bnd]
        obtain ⟨o, ok, s', e1, e2⟩ := XW ha h hs hN
        rw [e1, bnd, gI (by omega) (by omega)]
        cases eq : Bz a s with
        | none =>
          rw [eq] at e2
          simp only at e2
          subst e2
          simp only [Bool.not_false, cond_true]
          unfold wX
          push_cast; rfl
        | some q =>
          obtain ⟨t, o2, p⟩ := q
          rw [eq] at e2
          obtain ⟨rfl, rfl, rfl⟩ := e2
          have hk := Fz ha h hs eq
          simp only [Bool.not_true, cond_false]
          have fin : ∀ l, l = said ++ o2.toList → l.length ≤ 40 → Bf (⟨o2.isSome, o2.getD 0, p⟩, true, s') n K l = some (if p then (s', said ++ o2.toList, ((n + 1 : Nat) : Int), 0) else ((pK a m (said ++ o2.toList) (n + 1) s').1, (pK a m (said ++ o2.toList) (n + 1) s').2.1, ((pK a m (said ++ o2.toList) (n + 1) s').2.2 : Int), 0)) := by
            intro l hl1 hl2
            subst hl1
            unfold Bf wX
            simp only
            cases p with
            | true => rw [cond_true, if_pos rfl]; push_cast; rfl
            | false =>
              rw [cond_false, if_neg (by simp)]
              have := ih (said ++ o2.toList) (n + 1) s' hk.1 hl2 (by push_cast; omega) hb (by omega)
              rw [← this]; push_cast; rfl
          cases o2 with
          | none =>
            simp only [Option.isSome_none, cond_false]
            exact fin said (by simp) hl
          | some z =>
            have h9 := (hk.2.2 rfl).2
            simp only [Option.isSome_some, cond_true]
            rw [oq (room_le (by simp; omega) (by decide))]
            exact fin (said ++ [z]) (by simp) (by simp; omega)
      by_cases h40 : said.length = 40
      · rw [dT (by omega), cond_true, r2, bnd, r3, bnd, r4]
        by_cases h9 : El a s = 9
        · rw [if_pos ⟨h40, h9⟩, dT h9]; rfl
        · rw [if_neg (fun e => h9 e.2), dF h9]
          rcases go with go | go
          · rw [go]; cases Bz a s with
            | none => rfl
            | some q => obtain ⟨t, o, p⟩ := q; cases p <;> rfl
          · exact absurd go.2 h9
      · rw [dF (by omega), cond_false, if_neg (fun e => h40 e.1)]
        rcases go with go | go
        · rw [go]; cases Bz a s with
          | none => rfl
          | some q => obtain ⟨t, o, p⟩ := q; cases p <;> rfl
        · exact absurd go.1 h40
    · rw [dF hs, Bool.and_false, cond_false, if_pos hs]; rfl
theorem Sr {a : List bL} (ha : lZ a) {N : Nat} (hN : 100 ≤ N) (c : Int) : ∀ (m M : Nat) (said : List Int) (n : Nat) (s : LX.State), vN a s → s.status = 0 → said.length ≤ 40 → c = (n : Int) + m → c ≤ 2000 → m < M →
    again (ji N c a) M (said, (n : Int), s.frames, s.cells, s.status, s.aL) = some ((pK a m said n s).1, (pK a m said n s).2.1, ((pK a m said n s).2.2 : Int))
  | m, 0, said, n, s, h, hs, hl, hc, hb, hM => by omega
  | 0, M + 1, said, n, s, h, hs, hl, hc, hb, hM => by
    rw [xY]
    unfold ji pK
    simp only
    rw [dF (by omega), cond_false, show c = (n : Int) by omega]
  | m + 1, M + 1, said, n, s, h, hs, hl, hc, hb, hM => by
    rw [xY]
    have ih := Sr ha hN c m M
    generalize again (ji N c a) M = K at ih ⊢
    unfold ji pK
    simp only
    rw [dT (by omega), cond_true, if_neg (by omega)]
    obtain ⟨hfr, f, x, i, r1, r2, r3, r4⟩ := Ph ha h hs
    rw [gI (by omega) (by omega), r1, bnd]
    have go : mf N s.frames s.cells s.status s.aL said n a K false = some (match Bz a s with
        | none => ({ s with status := 2 }, said, ((n + 1 : Nat) : Int))
        | some (t, o, p) => if p then (t, said ++ o.toList, ((n + 1 : Nat) : Int)) else ((pK a m (said ++ o.toList) (n + 1) t).1, (pK a m (said ++ o.toList) (n + 1) t).2.1, ((pK a m (said ++ o.toList) (n + 1) t).2.2 : Int))) ∨ (said.length = 40 ∧ El a s = 9) := by
      by_cases hstop : said.length = 40 ∧ El a s = 9
      · exact .inr hstop
      left
      unfold mf
      rw [cond_false, show (⟨s.frames, s.cells, s.status, s.aL⟩ : LX.State) = s from rfl, UE (h.small ha), bnd]
      obtain ⟨l, pz, ok, s', e1, e2⟩ := XX ha h hs hN
      rw [e1, bnd]
      cases eq : Bz a s with
      | none =>
        rw [eq] at e2
        simp only at e2
        subst e2
        simp only [Bool.not_false, cond_true]
        rw [gI (by omega) (by omega)]
        push_cast; rfl
      | some q =>
        obtain ⟨t, o2, p⟩ := q
        rw [eq] at e2
        obtain ⟨rfl, rfl, rfl, rfl⟩ := e2
        have hk := Fz ha h hs eq
        have hlen : (said ++ o2.toList).length ≤ 40 := by
          cases o2 with
          | none => simpa using hl
          | some z => have h9 := (hk.2.2 rfl).2; simp; omega
        simp only [Bool.not_true, cond_false]
        rw [oq (room_le (by simp at hlen; omega) (by decide))]
        have stp : ∀ s2 : LX.State, s2.status ≠ 0 → ∀ k l2 n2, pK a k l2 n2 s2 = (s2, l2, n2) := by
          intro s2 h2 k l2 n2
          cases k with
          | zero => rfl
          | succ k => unfold pK; rw [if_pos h2]
        cases pz with
        | true =>
          rw [Bool.true_or, cond_true, gI (by omega) (by omega), if_pos rfl]; push_cast; rfl
        | false =>
          rw [Bool.false_or, if_neg (by simp)]
          by_cases h0 : s'.status = 0
          · rw [dF (by omega), cond_false, gI (by omega) (by omega)]
            have := ih (said ++ o2.toList) (n + 1) s' hk.1 h0 hlen (by push_cast; omega) hb (by omega)
            rw [← this]; push_cast; rfl
          · rw [dT h0, cond_true, gI (by omega) (by omega), stp s' h0]; push_cast; rfl
    by_cases h40 : said.length = 40
    · rw [dT (by omega), cond_true, r2, bnd, r3, bnd, r4]
      by_cases h9 : El a s = 9
      · rw [if_pos ⟨h40, h9⟩, dT h9]; rfl
      · rw [if_neg (fun e => h9 e.2), dF h9]
        rcases go with go | go
        · rw [go]; cases Bz a s with
          | none => rfl
          | some q => obtain ⟨t, o, p⟩ := q; cases p <;> rfl
        · exact absurd go.2 h9
    · rw [dF (by omega), cond_false, if_neg (fun e => h40 e.1)]
      rcases go with go | go
      · rw [go]; cases Bz a s with
        | none => rfl
        | some q => obtain ⟨t, o, p⟩ := q; cases p <;> rfl
      · exact absurd go.1 h40
theorem Ku {a : List bL} (ha : lZ a) : ∀ (m : Nat) (said : List Int) (n : Nat) (s : LX.State), vN a s → said.length ≤ 40 →
    vN a (pK a m said n s).1 ∧ (pK a m said n s).2.1.length ≤ 40 ∧ n ≤ (pK a m said n s).2.2 ∧ (pK a m said n s).2.2 ≤ n + m ∧ said <+: (pK a m said n s).2.1 ∧ (pK a m said n s).2.1.length ≤ said.length + ((pK a m said n s).2.2 - n) ∧ ((pK a m said n s).2.2 = n → (pK a m said n s).1 = s)
  | 0, said, n, s, h, hl => ⟨h, hl, Nat.le_refl _, Nat.le_refl _, List.prefix_refl _, by simp [pK], fun _ => rfl⟩
  | m + 1, said, n, s, h, hl => by
    unfold pK
    by_cases hs : s.status = 0
    · rw [if_neg (by omega)]
      by_cases h40 : said.length = 40 ∧ El a s = 9
      · rw [if_pos h40]; exact ⟨h, hl, Nat.le_refl _, by simp, List.prefix_refl _, by simp, fun _ => rfl⟩
      · rw [if_neg h40]
        cases eq : Bz a s with
        | none => exact ⟨fail_ok h hs, hl, by simp, by simp, List.prefix_refl _, by simp, fun e => by simp at e⟩
        | some q =>
          obtain ⟨t, o, p⟩ := q
          have hk := Fz ha h hs eq
          have hlen : (said ++ o.toList).length ≤ 40 := by
            cases o with
            | none => simpa using hl
            | some z => have h9 := (hk.2.2 rfl).2; simp; omega
          have ho : o.toList.length ≤ 1 := by cases o <;> simp
          simp only
          split
          · exact ⟨hk.1, hlen, by simp, by simp, List.prefix_append _ _, by show (said ++ o.toList).length ≤ said.length + (n + 1 - n); rw [List.length_append]; omega, fun e => by simp at e⟩
          · obtain ⟨i1, i2, i3, i4, i5, i6, i7⟩ := Ku ha m (said ++ o.toList) (n + 1) t hk.1 hlen
            refine ⟨i1, i2, by omega, by omega, (List.prefix_append _ _).trans i5, ?_, fun e => by omega⟩
            rw [List.length_append] at i6; omega
    · rw [if_pos hs]; exact ⟨h, hl, Nat.le_refl _, by simp, List.prefix_refl _, by simp, fun _ => rfl⟩
theorem XY (a : List bL) (s : LX.State) (c : Int) {N : Nat} (hN : 3000 ≤ N) : Qp N a s c = some (if Ni a ≠ 0 then (⟨[], [], 0, 0⟩, [], 0, Ni a) else if ckS a s ≠ 0 then (⟨[], [], 0, 0⟩, [], 0, ckS a s) else if c < 0 ∨ 2000 < c then (⟨[], [], 0, 0⟩, [], 0, 3) else if s.status ≠ 0 then (⟨[], [], 0, 0⟩, [], 0, 7) else ((pK a c.toNat [] 0 s).1, (pK a c.toNat [] 0 s).2.1, ((pK a c.toNat [] 0 s).2.2 : Int), 0)) := by
  unfold Qp
  rw [KR, bnd]
  by_cases h1 : Ni a = 0
  · rw [if_neg (by omega), if_neg (by omega)]
    by_cases h2 : ckS a s = 0
    · rw [dF (by omega), cond_false, if_neg (by omega)]
      by_cases h3 : c < 0 ∨ 2000 < c
      · rw [show (decide ((c : Int) < 0) || decide ((2000 : Int) < c)) = true by rw [Bool.or_eq_true]; simp only [decide_eq_true_eq]; exact h3, cond_true, if_pos h3]
      · rw [show (decide ((c : Int) < 0) || decide ((2000 : Int) < c)) = false by rw [Bool.or_eq_false_iff]; simp only [decide_eq_false_iff_not]; omega, cond_false, if_neg h3]
        by_cases h4 : s.status = 0
        · rw [dF (by omega), cond_false, if_neg (by omega)]
          have ha := zN h1
          have hs := Qx.1 h2
          rw [copy_eq (hs.small ha), bnd]
          have := Sq ha (N := N) (by omega) c c.toNat N [] 0 s hs (by simp) (by omega) (by omega) (by omega)
          exact this
        · rw [dT h4, cond_true, if_pos h4]
    · rw [dT h2, cond_true, if_pos h2]
  · rw [if_pos h1, if_pos h1, dT h1, cond_true]
theorem ranOn_eq {a : List bL} {s : LX.State} (ha : lZ a) (hs : vN a s) (h0 : s.status = 0) {c : Int} (hc : 0 ≤ c ∧ c ≤ 2000) {N : Nat} (hN : 3000 ≤ N) : uz N a s c = some ((pK a c.toNat [] 0 s).1, (pK a c.toNat [] 0 s).2.1, ((pK a c.toNat [] 0 s).2.2 : Int)) := by
  unfold uz
  rw [UE (hs.small ha), bnd]
  exact Sr ha (N := N) (by omega) c c.toNat N [] 0 s hs h0 (by simp) (by omega) (by omega) (by omega)
theorem UK (a : List bL) (s : LX.State) : Ls a s = some (if Ni a ≠ 0 then (⟨[], [], 0, 0⟩, Ni a) else if ckS a s ≠ 0 then (⟨[], [], 0, 0⟩, ckS a s) else if s.status ≠ 3 then (⟨[], [], 0, 0⟩, 7) else (⟨s.frames, s.cells, 0, 0⟩, 0)) := by
  unfold Ls
  rw [KR, bnd]
  by_cases h1 : Ni a = 0
  · rw [if_neg (by omega), if_neg (by omega)]
    by_cases h2 : ckS a s = 0
    · rw [dF (by omega), cond_false, if_neg (by omega)]
      by_cases h4 : s.status = 3
      · rw [dF (by omega), cond_false, if_neg (by omega), copy_eq ((Qx.1 h2).small (zN h1)), bnd]
      · rw [dT h4, cond_true, if_pos h4]
    · rw [dT h2, cond_true, if_pos h2]
  · rw [if_pos h1, if_pos h1, dT h1, cond_true]
def vS (a : List bL) : LX.State := ⟨[⟨0, 0, List.replicate (((idx a 0).map (fun x : bL => x.regs)).getD 0).toNat ⟨0, 0⟩, 0⟩], [], 0, 0⟩
theorem H9 {a : List bL} (ha : lZ a) : ∃ x, idx a 0 = some x := by
  have := ha.many
  cases a with
  | nil => simp at this
  | cons x l => exact ⟨x, Ec x l⟩
theorem XZ (a : List bL) : Qe a = some (if Ni a ≠ 0 then (⟨[], [], 0, 0⟩, Ni a) else (vS a, 0)) := by
  unfold Qe
  rw [Qw, bnd]
  by_cases h1 : Ni a = 0
  · rw [dF (by omega), cond_false, if_neg (by omega)]
    obtain ⟨x, hx⟩ := H9 (zN h1)
    have := ((zN h1).mem hx).2.2.1
    rw [hx, bnd, oq (by omega)]
    unfold vS
    rw [hx]; rfl
  · rw [dT h1, cond_true, if_pos h1]
theorem Su {a : List bL} (ha : lZ a) : vN a (vS a) := by
  obtain ⟨x, hx⟩ := H9 ha
  have hm := ha.mem hx
  have hl := hm.2.2.2
  unfold tH at hl
  refine ⟨by simp [vS], by simp [vS], by simp [vS], by simp [vS], by simp [vS], ⟨by simp [vS], fun c hc => by simp [vS] at hc⟩, ⟨x, hx, by simp only; omega, ?_, fun v hv => ?_⟩, by simp, trivial⟩
  · simp only [hx, Option.map_some, Option.getD_some, List.length_replicate]; omega
  · have := List.eq_of_mem_replicate hv
    subst this; unfold jf; simp
end Go.Proofs.YtfclkapelkhlpaaGreatDoor
namespace Go.Proofs.YtfclkapelkhlpaaGreatDoor
open Go Go.Proofs Go.LX
theorem NN_big : 3000 ≤ NN := by decide
theorem Kv (s : LX.State) : j5 s s = some true := by rw [eqState2, dT rfl]
end Go.Proofs.YtfclkapelkhlpaaGreatDoor
namespace Go.Proofs.YtfclkapelkhlpaaGreatDoor
open Go Go.Proofs Go.LX
def Sv (ρ : Int → Int) (v : Val) : Val := if v.kind = 2 then ⟨v.kind, ρ v.n⟩ else v
def renFr (ρ : Int → Int) (f : LX.Frame) : LX.Frame := { f with regs := f.regs.map (Sv ρ) }
structure Iso (ρ : Int → Int) (R : List Int) (s t : LX.State) : Prop where
  frames : t.frames = s.frames.map (renFr ρ)
  status : t.status = s.status
  aL : t.aL = s.aL
  roots : kY (YtfclkapelkhlpaaGreatDoor.roots s.frames) R
  range : ∀ x ∈ R, 0 ≤ x ∧ x < s.cells.length
  range' : ∀ x ∈ R, 0 ≤ ρ x ∧ ρ x < t.cells.length
  inj : ∀ x ∈ R, ∀ y ∈ R, ρ x = ρ y → x = y
  cells : ∀ x ∈ R, cellAt t.cells (ρ x) = (cellAt s.cells x).map (Sv ρ) ∧ kY (cellAt s.cells x) R
theorem renV_ref (ρ : Int → Int) {v : Val} (h : v.kind = 2) : Sv ρ v = ⟨v.kind, ρ v.n⟩ := if_pos h
theorem renV_no (ρ : Int → Int) {v : Val} (h : v.kind ≠ 2) : Sv ρ v = v := if_neg h
section
variable {ρ : Int → Int} {R : List Int} {s t : LX.State}
theorem Sw (hi : ∀ x ∈ R, ∀ y ∈ R, ρ x = ρ y → x = y) {l : List Int} (hl : ∀ x ∈ l, x ∈ R) {x : Int} (hx : x ∈ R) : ρ x ∈ l.map ρ ↔ x ∈ l := by
  constructor
  · intro h
    obtain ⟨y, hy, e⟩ := List.mem_map.1 h
    rw [← hi y (hl y hy) x hx e]; exact hy
  · exact fun h => List.mem_map_of_mem h
theorem metV_map (hi : ∀ x ∈ R, ∀ y ∈ R, ρ x = ρ y → x = y) {l : List Int} (hl : ∀ x ∈ l, x ∈ R) {v : Val} (hv : v.kind = 2 → v.n ∈ R) : H6 (l.map ρ) (Sv ρ v) = (H6 l v).map ρ ∧ ∀ x ∈ H6 l v, x ∈ R := by
  unfold H6
  by_cases hk : v.kind = 2
  · rw [renV_ref ρ hk]
    simp only [hk, true_and]
    have hm' := Sw hi hl (hv hk)
    by_cases hm : v.n ∈ l
    · rw [if_neg (fun h => h (hm'.2 hm)), if_neg (fun h => h hm)]; exact ⟨rfl, hl⟩
    · rw [if_pos (fun h => hm (hm'.1 h)), if_pos hm]
      refine ⟨by simp, fun x hx => ?_⟩
      rcases List.mem_append.1 hx with hx | hx
      · exact hl x hx
      · simp at hx; subst hx; exact hv hk
  · rw [renV_no ρ hk, if_neg (fun h => hk h.1), if_neg (fun h => hk h.1)]; exact ⟨rfl, hl⟩
theorem Nt (hi : ∀ x ∈ R, ∀ y ∈ R, ρ x = ρ y → x = y) : ∀ {vs : List Val} {l : List Int}, (∀ x ∈ l, x ∈ R) → kY vs R → H7 (l.map ρ) (vs.map (Sv ρ)) = (H7 l vs).map ρ ∧ ∀ x ∈ H7 l vs, x ∈ R
  | [], l, hl, _ => ⟨rfl, hl⟩
  | v :: vs, l, hl, hv => by
    obtain ⟨h1, h2⟩ := metV_map hi hl (hv v (by simp))
    rw [List.map_cons, Dq, Dq, h1]
    exact Nt hi h2 (fun w hw => hv w (List.mem_cons_of_mem _ hw))
theorem Iso.Np (h : Iso ρ R s t) : ∀ (m k : Nat) (l : List Int), (∀ x ∈ l, x ∈ R) → Np t.cells m k (l.map ρ) = (Np s.cells m k l).map ρ ∧ ∀ x ∈ Np s.cells m k l, x ∈ R
  | 0, k, l, hl => ⟨rfl, hl⟩
  | m + 1, k, l, hl => by
    unfold YtfclkapelkhlpaaGreatDoor.Np
    by_cases hk : k < l.length
    · rw [dif_pos hk, dif_pos (by simpa using hk)]
      have hx := hl _ (List.getElem_mem hk)
      have hc := h.cells _ hx
      rw [List.getElem_map, hc.1]
      obtain ⟨h1, h2⟩ := Nt h.inj hl hc.2
      rw [h1]
      exact Iso.Np h m (k + 1) _ h2
    · rw [dif_neg hk, dif_neg (by simpa using hk)]; exact ⟨rfl, hl⟩
theorem Pj (ρ : Int → Int) : ∀ fr : List LX.Frame, YtfclkapelkhlpaaGreatDoor.roots (fr.map (renFr ρ)) = (YtfclkapelkhlpaaGreatDoor.roots fr).map (Sv ρ)
  | [] => rfl
  | f :: fr => by
    have := Pj ρ fr
    unfold YtfclkapelkhlpaaGreatDoor.roots at *
    rw [List.map_cons, List.flatMap_cons, List.flatMap_cons, List.map_append, this]; rfl
theorem Iso.reach (h : Iso ρ R s t) : qz t = (qz s).map ρ ∧ ∀ x ∈ qz s, x ∈ R := by
  unfold qz Ch
  rw [h.frames, Pj]
  obtain ⟨h1, h2⟩ := Nt h.inj (l := []) (fun x hx => by cases hx) h.roots
  rw [List.map_nil] at h1
  rw [h1]
  exact h.Np 25 0 _ h2
end
end Go.Proofs.YtfclkapelkhlpaaGreatDoor
namespace Go.Proofs.YtfclkapelkhlpaaGreatDoor
open Go Go.Proofs Go.LX
section
variable {a : List bL} {ρ : Int → Int} {R : List Int} {s t : LX.State}
theorem Nu {cells : List (List Val)} {k j : Int} {c : List Val} (hk : 0 ≤ k ∧ k < cells.length) (hj : 0 ≤ j ∧ j < cells.length) : cellAt (cells.set k.toNat c) j = if j = k then c else cellAt cells j := by
  obtain ⟨n, rfl⟩ := Int.eq_ofNat_of_zero_le hk.1
  obtain ⟨m, rfl⟩ := Int.eq_ofNat_of_zero_le hj.1
  unfold cellAt
  rw [Int.toNat_natCast, pM, pM, List.getElem?_set]
  by_cases e : n = m
  · subst e; rw [if_pos rfl, if_pos (by omega), if_pos rfl]; rfl
  · rw [if_neg e, if_neg (by omega)]
theorem refs_set {vs : List Val} {i : Nat} {v : Val} (h : kY vs R) (hv : v.kind = 2 → v.n ∈ R) : kY (vs.set i v) R := fun w hw hk => by
  rcases List.mem_or_eq_of_mem_set hw with hw | rfl
  · exact h w hw hk
  · exact hv hk
theorem Iso.put (h : Iso ρ R s t) {fr : List LX.Frame} (hr : kY (YtfclkapelkhlpaaGreatDoor.roots fr) R) {k : Int} (hk : k ∈ R) {i : Nat} {v : Val} (hv : v.kind = 2 → v.n ∈ R) (st wh : Int) :
    Iso ρ R ⟨fr, s.cells.set k.toNat ((cellAt s.cells k).set i v), st, wh⟩ ⟨fr.map (renFr ρ), t.cells.set (ρ k).toNat ((cellAt t.cells (ρ k)).set i (Sv ρ v)), st, wh⟩ := by
  refine ⟨rfl, rfl, rfl, hr, fun x hx => by simpa using h.range x hx, fun x hx => by simpa using h.range' x hx, h.inj, fun x hx => ?_⟩
  simp only
  rw [Nu (h.range' k hk) (h.range' x hx), Nu (h.range k hk) (h.range x hx)]
  have hc := h.cells x hx
  by_cases e : x = k
  · subst e
    rw [if_pos rfl, if_pos rfl, hc.1, List.map_set]
    exact ⟨rfl, refs_set hc.2 hv⟩
  · rw [if_neg e, if_neg (fun q => e (h.inj x hx k hk q))]
    exact hc
end
end Go.Proofs.YtfclkapelkhlpaaGreatDoor
namespace Go.Proofs.YtfclkapelkhlpaaGreatDoor
open Go Go.Proofs Go.LX
noncomputable section
theorem fnOk33 : iC Tryz.prog 33 := ⟨_, Tryz.func33, by kernel_rfl, rfl⟩
theorem fnOk34 : iC Tryz.prog 34 := ⟨_, Tryz.func34, by kernel_rfl, rfl⟩
theorem fnOk35 : iC Tryz.prog 35 := ⟨_, Tryz.func35, by kernel_rfl, rfl⟩
def zO (yw : List Int) (yt : List LX.Frame) (Ex : List (List Val)) (F8 : Int) (KH : Int) : Option (List Int × LX.State × Int) :=
  some (yw, (⟨yt, Ex, F8, KH⟩ : LX.State), 0)
def yf (N : Nat) (Ib : List Int) (a : List bL) (b : Int) (vP : Int) (Km : (List Int × Int × List LX.Frame × List (List Val) × Int × Int) → Option (List Int × LX.State × Int)) (Ab : List LX.Frame) (tY : List (List Val)) (MU : Int) (BD : Int) : Option (List Int × LX.State × Int) :=
  bif decide ((MU : Int) ≠ 0) then zO Ib Ab tY MU BD else (Qp N a (⟨Ab, tY, MU, BD⟩ : LX.State) b).bind fun AJ => bif decide ((AJ.2.2.2 : Int) ≠ 0) then some ([], (⟨[], [], 0, 0⟩ : LX.State), AJ.2.2.2) else ib (Room 8 Ib AJ.2.1) (ib (jV (vP + 1)) (Km ((Ib ++ AJ.2.1), (vP + 1), AJ.1.frames, AJ.1.cells, AJ.1.status, AJ.1.aL)))
def tJ (N : Nat) (c : Int) (a : List bL) (b : Int) (s : List Int × Int × List LX.Frame × List (List Val) × Int × Int) (Km : List Int × Int × List LX.Frame × List (List Val) × Int × Int → Option (List Int × LX.State × Int)) : Option (List Int × LX.State × Int) :=
  match s with | (Ib, vP, Ya, xc, yo, Cj) => bif decide ((vP : Int) < c) then bif decide ((yo : Int) = 3) then (Ls a (⟨Ya, xc, yo, Cj⟩ : LX.State)).bind fun BZ => bif decide ((BZ.2 : Int) ≠ 0) then some ([], (⟨[], [], 0, 0⟩ : LX.State), BZ.2) else yf N Ib a b vP Km BZ.1.frames BZ.1.cells BZ.1.status BZ.1.aL else yf N Ib a b vP Km Ya xc yo Cj else zO Ib Ya xc yo Cj
def FB (N : Nat) (a : List bL) (b : Int) (c : Int) : Option (List Int × LX.State × Int) :=
  (Qe a).bind fun y2 => bif decide ((y2.2 : Int) ≠ 0) then some ([], (⟨[], [], 0, 0⟩ : LX.State), y2.2) else bif (((decide ((b : Int) < 1) || decide ((2000 : Int) < b)) || decide ((c : Int) < 0)) || decide ((120 : Int) < c)) then some ([], (⟨[], [], 0, 0⟩ : LX.State), 3) else again (tJ N c a b) N ([], 0, y2.1.frames, y2.1.cells, y2.1.status, y2.1.aL)
theorem Nv (N : Nat) (w0 : World) (M : BS) (hM : ∀ b, M b → b < w0.heap.size) (va : Value) (a : List bL) (ha : gX jk w0 M va a) (b : Int) (c : Int) (r : List Int × LX.State × Int) (hs : FB N a b c = some r) :
    Calls Tryz.prog 33 #[va, (I6 b), (I6 c)] w0 (fun e w' => Grow w0 w' ∧ ∃ u0, ∃ u1_0, ∃ u1_1, e = .returned (.tuple #[u0, .agg #[u1_0, u1_1, .int .i64 r.2.1.status, .int .i64 r.2.1.aL], .int .i64 r.2.2]) ∧ fI eP 3 w' M u0 r.1 ∧ (∀ b, ob u0 b → w0.heap.size ≤ b) ∧ gX fC w' (fun b => M b ∨ ob u0 b) u1_0 r.2.1.frames ∧ gX (rU bC) w' (fun b => M b ∨ ob u0 b) u1_1 r.2.1.cells) := by
 refine aQ (args := [va, (I6 b), (I6 c)]) Tryz.func33 rfl Tryz.ntmps33 (bF rfl) ?_
 have h := SH.init hM
 replace h := h.QH 1 ha bH
 have vC := ha.bT
 refine nG (aa (ae (v := (.slice none 0 0)) rfl) (bP h 2 bM fun w b1 h => aa (ae (v := (I6 0)) rfl) (nJ (aa (ah (v := va) rfl) ?_))))
 obtain ⟨y2, e3, hs⟩ := aK hs
 refine aX fnOk29 rfl rfl (ZM _ _ h.lt va a (h.ny 1 rfl) _ e3) ?_
 rintro _ w ⟨k8, u4, u6, rfl, g5, g7⟩
 refine ⟨_, rfl, ?_⟩
 replace h := h.NZ 3 k8 g5
 replace h := h.dA 4 g7.up
 refine aa (ah (v := (.tuple #[(.agg #[u4, u6, (I6 y2.1.status), (I6 y2.1.aL)]), (I6 y2.2)])) rfl) (aa (bu rfl rfl) (aa (bu rfl rfl) (bP h 5 bM fun w b9 h => dH (vs := [u4, u6, (I6 y2.1.status), (I6 y2.1.aL)]) h 5 [u4, u6, (I6 y2.1.status), (I6 y2.1.aL)] rfl bM rfl rfl rfl rfl rfl (ai (h.iD 3 rfl).one (ai (h.iD 4 rfl).one (ai rfl (ai rfl aS)))) fun w h => aa (ae (v := (I6 y2.2)) rfl) (nK (aa (ah (v := (I6 y2.2)) rfl) (aa (iA rfl rfl) (nN (aI hs rfl (fun c10 hs => ?_) (fun c10 hs => ?_)))))))))
 refine nG (aa (ek (pv := []) (out := [(.slice none 0 0), (.slice none 0 0), (I6 0), (I6 0)]) rA rfl rfl) (aa (ah (v := (I6 y2.2)) rfl) (aa (ae (v := (.slice none 0 0)) rfl) (dH (vs := [(.slice none 0 0), (.slice none 0 0), (I6 0), (I6 0)]) h 2 [(.slice none 0 0), (.slice none 0 0), (I6 0), (I6 0)] rfl bM rfl rfl rfl rfl rfl (ai rfl (ai rfl (ai rfl (ai rfl aS)))) fun w h => aa (ae (v := (I6 y2.2)) rfl) (nR (ay (Ik (v1 := (.slice none 0 0)) (vs := [(.slice none 0 0), (.slice none 0 0), (I6 0), (I6 0)]) (v3 := (I6 y2.2)) Tryz.results33 rfl rfl rfl h 2 rfl bM rfl ?_)))))))
 obtain rfl := fP hs
 exact ⟨h.grown, _, _, _, rfl, fI.nil, lN, gy.nil, gy.nil⟩
 refine aH (ak (aM (nG (aa (ah (v := (I6 b)) rfl) (aa (eB rfl rfl) (aa (ah (v := (.bool (decide ((b : Int) < 1)))) rfl) (aG rfl rfl (fun q => ah (v := (I6 b)) rfl) (aG rfl rfl (fun q => lT (eD q) rfl) (aa (iJ rfl rfl nC) (aa (ah (v := (.bool ((decide ((b : Int) < 1) || decide ((2000 : Int) < b))))) rfl) (aG rfl rfl (fun q => ah (v := (I6 c)) rfl) (aG rfl rfl (fun q => eB (eD q) rfl) (aa (iJ rfl rfl nC) (aa (ah (v := (.bool (((decide ((b : Int) < 1) || decide ((2000 : Int) < b)) || decide ((c : Int) < 0))))) rfl) (aG rfl rfl (fun q => ah (v := (I6 c)) rfl) (aG rfl rfl (fun q => lT (eD q) rfl) (aa (iJ rfl rfl nC) (nN (aI hs rfl (fun c11 hs => ?_) (fun c11 hs => ?_))))))))))))))))))))
 refine nG (aa (ek (pv := []) (out := [(.slice none 0 0), (.slice none 0 0), (I6 0), (I6 0)]) rA rfl rfl) (aa (ae (v := (.slice none 0 0)) rfl) (dH (vs := [(.slice none 0 0), (.slice none 0 0), (I6 0), (I6 0)]) h 2 [(.slice none 0 0), (.slice none 0 0), (I6 0), (I6 0)] rfl bM rfl rfl rfl rfl rfl (ai rfl (ai rfl (ai rfl (ai rfl aS)))) fun w h => aa (ae (v := (I6 3)) rfl) (nR (ay (Ik (v1 := (.slice none 0 0)) (vs := [(.slice none 0 0), (.slice none 0 0), (I6 0), (I6 0)]) (v3 := (I6 3)) Tryz.results33 rfl rfl rfl h 2 rfl bM rfl ?_))))))
 obtain rfl := fP hs
 exact ⟨h.grown, _, _, _, rfl, fI.nil, lN, gy.nil, gy.nil⟩
 refine nS (aa (ae (v := (.slice none 0 0)) rfl) (nN (bX (σ := Value × List Int × Value × List LX.Frame × Value × List (List Val) × Int × Int) (inl ([6, 8, 10, 11, 12] ++ rg 37 36)) (fun ⟨v12, yw, v14, yt, v16, Ex, F8, KH⟩ => [(11, v12)]) (fun ⟨v12, yw, v14, yt, v16, Ex, F8, KH⟩ w => SH w0 M BE w (hset [(2, .blk b1 [(.slice none 0 0), (.slice none 0 0), (I6 0), (I6 0)]), (5, .blk b9 [v14, v16, (I6 F8), (I6 KH)]), (6, .rd fC v14 yt), (7, .rd (rU bC) v16 Ex), (15, .own eP 3 v12 yw)]) ∧ zO yw yt Ex F8 KH = some r) ?_ ?_)))
 rintro ⟨v12, yw, v14, yt, v16, Ex, F8, KH⟩ w dO ⟨h, hs⟩
 refine aM (lg 3 mixed (by kernel_rfl) h fun w h => aD (ah (v := v12) rfl) (aD (dK (vs := [v14, v16, (I6 F8), (I6 KH)]) h 5 rfl bM rfl rfl rfl) (aD (ae (v := v12) rfl) (uH (dH (vs := [v14, v16, (I6 F8), (I6 KH)]) h 2 [v14, v16, (I6 F8), (I6 KH)] rfl bM rfl rfl rfl rfl rfl (ai (h.iD 6 rfl).one (ai (h.iD 7 rfl).one (ai rfl (ai rfl aS)))) fun w h => aa (ae (v := (I6 0)) rfl) (nR (Ik (v1 := v12) (vs := [v14, v16, (I6 F8), (I6 KH)]) (v3 := (I6 0)) Tryz.results33 rfl rfl rfl h 2 rfl bM rfl ?_)))))))
 obtain rfl := fP hs
 exact ⟨h.grown, _, _, _, rfl, (h.jQ 15 rfl).1, (h.jQ 15 rfl).2, h.xq 6 15 rfl rfl, h.xq 7 15 rfl rfl⟩
 refine nG (aa (ah (v := (I6 c)) rfl) (aa (ah (v := (I6 0)) rfl) (nN (aO ?_))))
 replace h := h.yj (R := eP) (E := 3) 25
 replace h := h.xn 3 26 rfl
 replace h := h.xn 4 27 rfl
 refine gu (σ := Nat × Value × List Int × Int × Value × List LX.Frame × Value × List (List Val) × Int × Int) (inl ([6, 8, 10, 11, 12] ++ rg 38 35)) (fun ⟨m59, v47, Ib, vP, v50, Ya, v52, xc, yo, Cj⟩ => [(11, v47), (38, (I6 vP))]) (fun ⟨m59, v47, Ib, vP, v50, Ya, v52, xc, yo, Cj⟩ w => SH w0 M BE w (hset [(1, .rd jk va a), (2, .blk b1 [(.slice none 0 0), (.slice none 0 0), (I6 0), (I6 0)]), (5, .blk b9 [v50, v52, (I6 yo), (I6 Cj)]), (25, .own eP 3 v47 Ib), (26, .rd fC v50 Ya), (27, .rd (rU bC) v52 xc)]) ∧ again (tJ N c a b) m59 (Ib, vP, Ya, xc, yo, Cj) = some r) (fun ⟨m59, v47, Ib, vP, v50, Ya, v52, xc, yo, Cj⟩ => m59) ⟨N, (.slice none 0 0), [], 0, u4, y2.1.frames, u6, y2.1.cells, y2.1.status, y2.1.aL⟩ ⟨rfl, rfl, trivial⟩ ?_ ?_
 exact ⟨h.cn _, hs⟩
 rintro ⟨m59, v47, Ib, vP, v50, Ya, v52, xc, yo, Cj⟩ w dO ⟨h, hs⟩
 obtain ⟨m591, m59e, m59h⟩ := qA hs
 subst m59e
 replace hs := m59h
 generalize hnx60 : again (tJ N c a b) m591 = Km at hs
 refine nG (aa (eB rfl rfl) (nN (aM (aI hs rfl (fun c63 hs => ?_) (fun c63 hs => ?_)))))
 refine aH (ak (aM (aO (bX (σ := Value × List LX.Frame × Value × List (List Val) × Int × Int) (inl ([6, 8, 10] ++ rg 40 13)) (fun ⟨v64, Ab, v66, tY, MU, BD⟩ => []) (fun ⟨v64, Ab, v66, tY, MU, BD⟩ w => SH w0 M BE w (hset [(1, .rd jk va a), (2, .blk b1 [(.slice none 0 0), (.slice none 0 0), (I6 0), (I6 0)]), (5, .blk b9 [v64, v66, (I6 MU), (I6 BD)]), (25, .own eP 3 v47 Ib), (28, .rd fC v64 Ab), (29, .rd (rU bC) v66 tY)]) ∧ yf N Ib a b vP Km Ab tY MU BD = some r) ?_ ?_))))
 rintro ⟨v64, Ab, v66, tY, MU, BD⟩ w dO ⟨h, hs⟩
 refine aM (nG (aa (ag lq rfl) (aa (aA h 5 rfl aU rfl rfl) (aa (iA rfl rfl) (nN (aI hs rfl (fun c70 hs => ?_) (fun c70 hs => ?_)))))))
 refine iL (bI (yz (by decide) (bI (bI (eH (au ?_))))))
 replace h := h.EB 25 15 rfl rfl (by decide)
 replace h := h.xn 28 6 rfl
 replace h := h.xn 29 7 rfl
 exact bQ (v47, Ib, v64, Ab, v66, tY, MU, BD) ⟨h.cn _, hs⟩
 refine nS (aa (ae (v := (.slice none 0 0)) rfl) (nK (aa (ah (v := va) rfl) (aa (dK (vs := [v64, v66, (I6 MU), (I6 BD)]) h 5 rfl bM rfl rfl rfl) (aa (ah (v := (I6 b)) rfl) ?_)))))
 obtain ⟨AJ, WA, hs⟩ := aK hs
 refine aX fnOk28 rfl rfl (aam N _ _ h.lt va a (h.iD 1 rfl) (⟨Ab, tY, MU, BD⟩ : LX.State) v64 v66 (h.ny 28 rfl) (h.ny 29 rfl) b _ WA) ?_
 rintro _ w ⟨k80, u73, u75, u77, rfl, g74, g76, g78, g79⟩
 refine ⟨_, rfl, ?_⟩
 replace h := h.mK 32 k80 g78 g79
 replace h := h.dA 30 g74.upO
 replace h := h.dA 31 g76.upO.up
 refine aa (ah (v := (.tuple #[(.agg #[u73, u75, (I6 AJ.1.status), (I6 AJ.1.aL)]), u77, (I6 AJ.2.2.1), (I6 AJ.2.2.2)])) rfl) (aa (bu rfl rfl) (aa (bu rfl rfl) (aa (bu rfl rfl) (aa (bu rfl rfl) (dH (vs := [u73, u75, (I6 AJ.1.status), (I6 AJ.1.aL)]) h 5 [u73, u75, (I6 AJ.1.status), (I6 AJ.1.aL)] rfl bM rfl rfl rfl rfl rfl (ai (h.iD 30 rfl).one (ai (h.iD 31 rfl).one (ai rfl (ai rfl aS)))) fun w h => aa (ae (v := u77) rfl) (aa (ae (v := (I6 AJ.2.2.2)) rfl) (nJ (aa (ah (v := (I6 AJ.2.2.2)) rfl) (aa (iA rfl rfl) (nN (aI hs rfl (fun c81 hs => ?_) (fun c81 hs => ?_))))))))))))
 refine nG (aa (ek (pv := []) (out := [(.slice none 0 0), (.slice none 0 0), (I6 0), (I6 0)]) rA rfl rfl) (aa (ah (v := (I6 AJ.2.2.2)) rfl) (aa (ae (v := (.slice none 0 0)) rfl) (dH (vs := [(.slice none 0 0), (.slice none 0 0), (I6 0), (I6 0)]) h 2 [(.slice none 0 0), (.slice none 0 0), (I6 0), (I6 0)] rfl bM rfl rfl rfl rfl rfl (ai rfl (ai rfl (ai rfl (ai rfl aS)))) fun w h => aa (ae (v := (I6 AJ.2.2.2)) rfl) (nR (ay (aF (ay (ay (aF (ay (Ik (v1 := (.slice none 0 0)) (vs := [(.slice none 0 0), (.slice none 0 0), (I6 0), (I6 0)]) (v3 := (I6 AJ.2.2.2)) Tryz.results33 rfl rfl rfl h 2 rfl bM rfl ?_))))))))))))
 obtain rfl := fP hs
 exact ⟨h.grown, _, _, _, rfl, fI.nil, lN, gy.nil, gy.nil⟩
 refine aH (ak (aC (aa (ah (v := v47) rfl) (aa (ah (v := u77) rfl) ?_))))
 obtain ⟨a82, hs⟩ := bB hs
 refine lV (R := eP) (m := AJ.2.1) h 25 rfl (h.eG 32 rfl) jC rfl rfl rfl a82.1 a82.2 fun w u83 h => aa (ae (v := u83) rfl) (az (ax (ak (aC ?_))))
 obtain ⟨a84, hs⟩ := bB hs
 refine aa (dP rfl rfl a84) (aa (ah (v := (I6 ((vP + 1)))) rfl) (az (au ?_)))
 replace h := h.xn 30 26 rfl
 replace h := h.xn 31 27 rfl
 subst hnx60
 exact jB ⟨m591, u83, (Ib ++ AJ.2.1), (vP + 1), u73, AJ.1.frames, u75, AJ.1.cells, AJ.1.status, AJ.1.aL⟩ ⟨h.cn _, hs⟩
 refine nG (aa (ag lq rfl) (aa (aA h 5 rfl aU rfl rfl) (aa (bz rfl rfl) (nN (aI hs rfl (fun c85 hs => ?_) (fun c85 hs => ?_))))))
 refine nG (aa (ah (v := va) rfl) (aa (dK (vs := [v50, v52, (I6 yo), (I6 Cj)]) h 5 rfl bM rfl rfl rfl) ?_))
 obtain ⟨BZ, e87, hs⟩ := aK hs
 refine aX fnOk30 rfl rfl (Xf _ _ h.lt va a (h.ny 1 rfl) (⟨Ya, xc, yo, Cj⟩ : LX.State) v50 v52 (h.ny 26 rfl) (h.ny 27 rfl) _ e87) ?_
 rintro _ w ⟨k92, u88, u90, rfl, g89, g91⟩
 refine ⟨_, rfl, ?_⟩
 replace h := h.NZ 33 k92 g89
 replace h := h.dA 34 g91.up
 refine aa (ah (v := (.tuple #[(.agg #[u88, u90, (I6 BZ.1.status), (I6 BZ.1.aL)]), (I6 BZ.2)])) rfl) (aa (bu rfl rfl) (aa (bu rfl rfl) (dH (vs := [u88, u90, (I6 BZ.1.status), (I6 BZ.1.aL)]) h 5 [u88, u90, (I6 BZ.1.status), (I6 BZ.1.aL)] rfl bM rfl rfl rfl rfl rfl (ai (h.iD 33 rfl).one (ai (h.iD 34 rfl).one (ai rfl (ai rfl aS)))) fun w h => aa (ae (v := (I6 BZ.2)) rfl) (nJ (aa (ah (v := (I6 BZ.2)) rfl) (aa (iA rfl rfl) (nN (aI hs rfl (fun c93 hs => ?_) (fun c93 hs => ?_)))))))))
 refine nG (aa (ek (pv := []) (out := [(.slice none 0 0), (.slice none 0 0), (I6 0), (I6 0)]) rA rfl rfl) (aa (ah (v := (I6 BZ.2)) rfl) (aa (ae (v := (.slice none 0 0)) rfl) (dH (vs := [(.slice none 0 0), (.slice none 0 0), (I6 0), (I6 0)]) h 2 [(.slice none 0 0), (.slice none 0 0), (I6 0), (I6 0)] rfl bM rfl rfl rfl rfl rfl (ai rfl (ai rfl (ai rfl (ai rfl aS)))) fun w h => aa (ae (v := (I6 BZ.2)) rfl) (nR (ay (aF (ay (ay (aF (ay (Ik (v1 := (.slice none 0 0)) (vs := [(.slice none 0 0), (.slice none 0 0), (I6 0), (I6 0)]) (v3 := (I6 BZ.2)) Tryz.results33 rfl rfl rfl h 2 rfl bM rfl ?_))))))))))))
 obtain rfl := fP hs
 exact ⟨h.grown, _, _, _, rfl, fI.nil, lN, gy.nil, gy.nil⟩
 refine aH (au ?_)
 replace h := h.xn 33 28 rfl
 replace h := h.xn 34 29 rfl
 exact bQ (u88, BZ.1.frames, u90, BZ.1.cells, BZ.1.status, BZ.1.aL) ⟨h.cn _, hs⟩
 refine aH (au ?_)
 replace h := h.xn 26 28 rfl
 replace h := h.xn 27 29 rfl
 exact bQ (v50, Ya, v52, xc, yo, Cj) ⟨h.cn _, hs⟩
 refine iL (bI (bI (eH (au ?_))))
 replace h := h.EB 25 15 rfl rfl (by decide)
 replace h := h.xn 26 6 rfl
 replace h := h.xn 27 7 rfl
 exact bQ (v47, Ib, v50, Ya, v52, xc, yo, Cj) ⟨h.cn _, hs⟩
def qP (N : Nat) : Option Bool :=
  (nH N).bind fun y1 => (BN N y1).bind fun y7 => (FB N y7 50 20).bind fun y13 => bif (decide ((y13.2.2 : Int) = 0) && decide ((y13.2.1.status : Int) = 1)) then (slices_Equal_int y13.1 [9, 4, 1]).bind fun Li => some Li else some false
theorem Af (N : Nat) (w0 : World) (M : BS) (hM : ∀ b, M b → b < w0.heap.size) (hT : ze Tryz.prog 4 w0)  (r : Bool) (hs : qP N = some r) :
    Calls Tryz.prog 34 #[] w0 (fun e w' => Grow w0 w' ∧ e = .returned (.bool r)) := by
 refine aQ (args := []) Tryz.func34 rfl Tryz.ntmps34 (bF rfl) ?_
 have h := SH.init hM
 refine nG (aa (ae (v := (.bool (false))) rfl) (nJ ?_))
 obtain ⟨y1, e2, hs⟩ := aK hs
 refine aX fnOk40 rfl rfl (En N _ _ h.lt (hT.go h.keep)  _ e2) ?_
 rintro _ w ⟨k6, u3, rfl, g4, g5⟩
 refine ⟨_, rfl, ?_⟩
 replace h := h.mK 1 k6 g4 g5
 obtain ⟨y7, e8, hs⟩ := aK hs
 refine aX fnOk39 rfl rfl (F9 N _ _ h.lt u3 y1 (h.eG 1 rfl) _ e8) ?_
 rintro _ w ⟨k12, u9, rfl, g10, g11⟩
 refine ⟨_, rfl, ?_⟩
 replace h := h.mK 2 k12 g10 g11
 replace h := h.freeze 2 rfl
 obtain ⟨y13, e14, hs⟩ := aK hs
 refine aX fnOk33 rfl rfl (Nv N _ _ h.lt u9 y7 (h.iD 2 rfl) 50 20 _ e14) ?_
 rintro _ w ⟨k22, Jb, SC, u20, rfl, g16, g17, g19, g21⟩
 refine ⟨_, rfl, ?_⟩
 replace h := h.mK 3 k22 g16 g17
 replace h := h.dA 4 g19.upO
 replace h := h.dA 5 g21.upO.up
 refine aa (ah (v := (.tuple #[Jb, (.agg #[SC, u20, (I6 y13.2.1.status), (I6 y13.2.1.aL)]), (I6 y13.2.2)])) rfl) (aa (bu rfl rfl) (aa (bu rfl rfl) (aa (bu rfl rfl) (bP h 6 bM fun w FL h => aa (ae (v := Jb) rfl) (dH (vs := [SC, u20, (I6 y13.2.1.status), (I6 y13.2.1.aL)]) h 6 [SC, u20, (I6 y13.2.1.status), (I6 y13.2.1.aL)] rfl bM rfl rfl rfl rfl rfl (ai (h.iD 4 rfl).one (ai (h.iD 5 rfl).one (ai rfl (ai rfl aS)))) fun w h => aa (ae (v := (I6 y13.2.2)) rfl) (nJ (aa (ah (v := (I6 y13.2.2)) rfl) (aa (bz rfl rfl) (aa (ah (v := (.bool (decide ((y13.2.2 : Int) = 0)))) rfl) (aG rfl rfl (fun q => ag lq rfl) (aG rfl rfl (fun q => aA h 6 rfl aU (eD q) rfl) (aG rfl rfl (fun q => bz (eD q) rfl) (aa (gZ rfl rfl nC) (aa (ah (v := (.bool ((decide ((y13.2.2 : Int) = 0) && decide ((y13.2.1.status : Int) = 1))))) rfl) (kT (b := (decide ((y13.2.2 : Int) = 0) && decide ((y13.2.1.status : Int) = 1))) hs (fun c24 hs => ?_) (fun c24 hs => ?_))))))))))))))))
 refine eT rfl (cB c24) (aa (ah (v := Jb) rfl) (eT rfl (cB c24) (tL (R := eP) (vs := [(I6 9), (I6 4), (I6 1)]) (xs := [9, 4, 1]) h 7 jC rfl rfl rfl ⟨rfl, ⟨rfl, ⟨rfl, trivial⟩⟩⟩ rfl fun w u25 h => eT rfl (cB c24) ?_)))
 obtain ⟨Li, e27, hs⟩ := aK hs
 refine aX YM rfl rfl (Bi _ _ h.lt Jb y13.1 (h.eG 3 rfl) u25 [9, 4, 1] (h.eG 7 rfl) _ e27) ?_
 rintro _ w ⟨k28, rfl⟩
 refine ⟨_, rfl, ?_⟩
 replace h := h.grow k28
 refine aa (fB (b := true) (v := (.bool (Li))) (cB c24) rfl) (aa (ae (v := (.bool (Li))) rfl) (nR (dD (v := (.bool (Li))) Tryz.results34 rfl ?_)))
 obtain rfl := fP hs
 exact ⟨h.grown, rfl⟩
 refine vT rfl (cB c24) rfl (vT rfl (cB c24) rfl (vT rfl (cB c24) rfl (aa (fB (b := false) (v := (.bool (false))) (cB c24) rfl) (aa (ae (v := (.bool (false))) rfl) (nR (dD (v := (.bool (false))) Tryz.results34 rfl ?_))))))
 obtain rfl := fP hs
 exact ⟨h.grown, rfl⟩
def jP (N : Nat) (a : List bL) (b : Int) (s : Int × List Int × List LX.Frame × List (List Val) × Int × Int) (nx55 : Int × List Int × List LX.Frame × List (List Val) × Int × Int → Option (List Int × LX.State)) : Option (List Int × LX.State) :=
  match s with | (Sy, AX, KZ, rY, Ew, sI) => bif (decide ((0 : Int) < Sy) && (decide ((Ew : Int) = 0) || decide ((Ew : Int) = 3))) then (uz N a (⟨KZ, rY, 0, 0⟩ : LX.State) b).bind fun BF => ib (Room 8 AX BF.2.1) (ib (jV (Sy - 1)) (nx55 ((Sy - 1), (AX ++ BF.2.1), BF.1.frames, BF.1.cells, BF.1.status, BF.1.aL))) else some (AX, (⟨KZ, rY, Ew, sI⟩ : LX.State))
def uA (N : Nat) (a : List bL) (b : Int) (c : Int) : Option (List Int × LX.State) :=
  (idx a 0).bind fun x2 => ib (0 ≤ x2.regs ∧ x2.regs * 16 ≤ 140737488355328) (again (jP N a b) N (c, [], [(⟨0, 0, (List.replicate x2.regs.toNat (⟨0, 0⟩ : Val)), 0⟩ : LX.Frame)], [], 0, 0))
theorem Gg (N : Nat) (w0 : World) (M : BS) (hM : ∀ b, M b → b < w0.heap.size) (va : Value) (a : List bL) (ha : gX jk w0 M va a) (b : Int) (c : Int) (r : List Int × LX.State) (hs : uA N a b c = some r) :
    Calls Tryz.prog 35 #[va, (I6 b), (I6 c)] w0 (fun e w' => Grow w0 w' ∧ ∃ u0, ∃ u1_0, ∃ u1_1, e = .returned (.tuple #[u0, .agg #[u1_0, u1_1, .int .i64 r.2.status, .int .i64 r.2.aL]]) ∧ fI eP 3 w' M u0 r.1 ∧ (∀ b, ob u0 b → w0.heap.size ≤ b) ∧ gX fC w' (fun b => M b ∨ ob u0 b) u1_0 r.2.frames ∧ gX (rU bC) w' (fun b => M b ∨ ob u0 b) u1_1 r.2.cells) := by
 refine aQ (args := [va, (I6 b), (I6 c)]) Tryz.func35 rfl Tryz.ntmps35 (bF rfl) ?_
 have h := SH.init hM
 replace h := h.QH 1 ha bH
 have vC := ha.bT
 refine nG (aa (ae (v := (.slice none 0 0)) rfl) (bP h 2 bM fun w b1 h => nJ (aa (ah (v := va) rfl) ?_)))
 obtain ⟨x2, e3, hs⟩ := aK hs
 obtain ⟨b5, o6, cs7, h, r8, i4⟩ := h.Cm 1 3 rfl gU rfl (aB e3).1 (aB e3).2
 obtain ⟨u9, rfl, g10⟩ := jW r8
 replace h := h.dA 4 g10.up
 refine aa (i4 _ _ _ _ _ _ _ _ _ rfl rfl) (aa (ag wy rfl) (aa (fq (k := 1) h 3 rfl aU rfl rfl) ?_))
 obtain ⟨a12, hs⟩ := bB hs
 refine tX (R := bC) (zs := [(I6 0), (I6 0)]) (a := (⟨0, 0⟩ : Val)) h 5 kL aY rfl (by decide) rfl rfl a12 rfl (fun _ _ => rfl) fun w u11 h u11k u11f => aa (ek (pv := [(2, u11)]) (out := [(I6 0), (I6 0), u11, (I6 0)]) CB rfl ⟨2, 1, [u11], rfl, (fM (h.dm 5 rfl).one), rfl, bF rfl, rfl⟩) ?_
 replace h := h.freeze 5 rfl
 refine tL (R := fC) (vs := [(.agg #[(I6 0), (I6 0), u11, (I6 0)])]) (xs := [(⟨0, 0, (List.replicate x2.regs.toNat (⟨0, 0⟩ : Val)), 0⟩ : LX.Frame)]) h 6 jT rfl rfl rfl ⟨⟨_, rfl, (h.iD 5 rfl)⟩, trivial⟩ rfl fun w Mg h => aa (ek (pv := [(0, Mg)]) (out := [Mg, (.slice none 0 0), (I6 0), (I6 0)]) rA rfl ⟨0, 1, [Mg], rfl, (fM (h.dm 6 rfl).one), rfl, bF rfl, rfl⟩) (bP h 7 bM fun w b14 h => dH (vs := [Mg, (.slice none 0 0), (I6 0), (I6 0)]) h 7 [Mg, (.slice none 0 0), (I6 0), (I6 0)] rfl bM rfl rfl rfl rfl rfl (ai (h.dm 6 rfl).one (ai rfl (ai rfl (ai rfl aS)))) fun w h => nJ (aa (ae (v := (.slice none 0 0)) rfl) (nN (aM (aO ?_)))))
 replace h := h.yj (R := eP) (E := 3) 17
 replace h := h.freeze 6 rfl
 replace h := h.xn 6 18 rfl
 replace h := h.dA 19 (gy.nil (R := (rU bC)))
 refine gu (σ := Nat × Int × Value × List Int × Value × List LX.Frame × Value × List (List Val) × Int × Int) (inl ([2, 9, 10] ++ rg 19 27)) (fun ⟨m54, Sy, v43, AX, v45, KZ, v47, rY, Ew, sI⟩ => [(2, (I6 Sy)), (9, v43)]) (fun ⟨m54, Sy, v43, AX, v45, KZ, v47, rY, Ew, sI⟩ w => SH w0 M BE w (hset [(1, .rd jk va a), (2, .blk b1 [(.slice none 0 0), (.slice none 0 0), (I6 0), (I6 0)]), (7, .blk b14 [v45, v47, (I6 Ew), (I6 sI)]), (17, .own eP 3 v43 AX), (18, .rd fC v45 KZ), (19, .rd (rU bC) v47 rY)]) ∧ again (jP N a b) m54 (Sy, AX, KZ, rY, Ew, sI) = some r) (fun ⟨m54, Sy, v43, AX, v45, KZ, v47, rY, Ew, sI⟩ => m54) ⟨N, c, (.slice none 0 0), [], Mg, [(⟨0, 0, (List.replicate x2.regs.toNat (⟨0, 0⟩ : Val)), 0⟩ : LX.Frame)], (.slice none 0 0), [], 0, 0⟩ ⟨rfl, rfl, trivial⟩ ?_ ?_
 exact ⟨h.cn _, hs⟩
 rintro ⟨m54, Sy, v43, AX, v45, KZ, v47, rY, Ew, sI⟩ w dO ⟨h, hs⟩
 obtain ⟨m541, m54e, m54h⟩ := qA hs
 subst m54e
 replace hs := m54h
 generalize hnx55 : again (jP N a b) m541 = nx55 at hs
 refine aM (nG (aa (ah (v := (I6 Sy)) rfl) (aa (lT rfl rfl) (aa (ah (v := (.bool (decide ((0 : Int) < Sy)))) rfl) (aG rfl rfl (fun q => ag lq rfl) (aG rfl rfl (fun q => aA h 7 rfl aU (eD q) rfl) (aG rfl rfl (fun q => bz (eD q) rfl) (aG rfl rfl (fun q => ah (v := (.bool (decide ((Ew : Int) = 0)))) (eD q)) (kG (decide ((0 : Int) < Sy) == true) rfl rfl (fun q => ag lq rfl) (kG (decide ((0 : Int) < Sy) == true) rfl rfl (fun q => aA h 7 rfl aU (eD q) rfl) (kG (decide ((0 : Int) < Sy) == true) rfl rfl (fun q => bz (eD q) rfl) (aG rfl rfl (fun q => iJ (eD q) (QN q) nC) (aa (gZ rfl rfl nC) (nN (aI hs rfl (fun c58 hs => ?_) (fun c58 hs => ?_))))))))))))))))
 refine aH (ak (aM (aO (nG (aa (ag lq rfl) (gq h 7 [v45, v47, (I6 0), (I6 sI)] rfl aU rfl rfl rfl rfl rfl fun w h => aa (ag Aj rfl) (gq h 7 [v45, v47, (I6 0), (I6 0)] rfl aU rfl rfl rfl rfl rfl fun w h => nJ (aa (ae (v := (.slice none 0 0)) rfl) (nJ (aa (ah (v := va) rfl) (aa (dK (vs := [v45, v47, (I6 0), (I6 0)]) h 7 rfl bM rfl rfl rfl) (aa (ah (v := (I6 b)) rfl) ?_))))))))))))
 obtain ⟨BF, e60, hs⟩ := aK hs
 refine aX fnOk32 rfl rfl (Gd N _ _ h.lt va a (h.iD 1 rfl) (⟨KZ, rY, 0, 0⟩ : LX.State) v45 v47 (h.ny 18 rfl) (h.ny 19 rfl) b _ e60) ?_
 rintro _ w ⟨k68, Vm, u63, u65, rfl, g62, g64, g66, g67⟩
 refine ⟨_, rfl, ?_⟩
 replace h := h.mK 22 k68 g66 g67
 replace h := h.dA 20 g62.upO
 replace h := h.dA 21 g64.upO.up
 refine aa (ah (v := (.tuple #[(.agg #[Vm, u63, (I6 BF.1.status), (I6 BF.1.aL)]), u65, (I6 BF.2.2)])) rfl) (aa (bu rfl rfl) (aa (bu rfl rfl) (aa (bu rfl rfl) (dH (vs := [Vm, u63, (I6 BF.1.status), (I6 BF.1.aL)]) h 7 [Vm, u63, (I6 BF.1.status), (I6 BF.1.aL)] rfl bM rfl rfl rfl rfl rfl (ai (h.iD 20 rfl).one (ai (h.iD 21 rfl).one (ai rfl (ai rfl aS)))) fun w h => aa (ae (v := u65) rfl) (nN (aC (aa (ah (v := v43) rfl) (aa (ah (v := u65) rfl) ?_))))))))
 obtain ⟨a69, hs⟩ := bB hs
 refine lV (R := eP) (m := BF.2.1) h 17 rfl (h.eG 22 rfl) jC rfl rfl rfl a69.1 a69.2 fun w u70 h => aa (ae (v := u70) rfl) (az (ax (ak (aC (aa (ah (v := (I6 Sy)) rfl) ?_)))))
 obtain ⟨a71, hs⟩ := bB hs
 refine aa (mV rfl rfl a71) (aa (ae (v := (I6 ((Sy - 1)))) rfl) (az (au ?_)))
 replace h := h.xn 20 18 rfl
 replace h := h.xn 21 19 rfl
 subst hnx55
 exact jB ⟨m541, (Sy - 1), u70, (AX ++ BF.2.1), Vm, BF.1.frames, u63, BF.1.cells, BF.1.status, BF.1.aL⟩ ⟨h.cn _, hs⟩
 refine iL (bI (bI (eH (ak (aM (lg 3 mixed (by kernel_rfl) h fun w h => aD (ah (v := v43) rfl) (aD (dK (vs := [v45, v47, (I6 Ew), (I6 sI)]) h 7 rfl bM rfl rfl rfl) (aD (ae (v := v43) rfl) (uH (dH (vs := [v45, v47, (I6 Ew), (I6 sI)]) h 2 [v45, v47, (I6 Ew), (I6 sI)] rfl bM rfl rfl rfl rfl rfl (ai (h.iD 18 rfl).one (ai (h.iD 19 rfl).one (ai rfl (ai rfl aS)))) fun w h => nR (fin_tc (v1 := v43) (vs := [v45, v47, (I6 Ew), (I6 sI)]) Tryz.results35 rfl rfl h 2 rfl bM rfl ?_)))))))))))
 obtain rfl := fP hs
 exact ⟨h.grown, _, _, _, rfl, (h.jQ 17 rfl).1, (h.jQ 17 rfl).2, h.xq 18 17 rfl rfl, h.xq 19 17 rfl rfl⟩
def jA (N : Nat) (y2 : List Int × LX.State × Int) (a : List bL) (x1 : Int) (c : Int) (oD : Int) : Option Bool :=
  (qP N).bind fun Ex => bif ((!Ex) || decide ((oD : Int) ≠ 0)) then (qP N).bind fun y21 => bif ((y21 && decide ((y2.2.2 : Int) = oD)) && decide (((y2.1.length : Int) : Int) = 0)) then (j5 y2.2.1 (⟨[], [], 0, 0⟩ : LX.State)).bind fun y25 => some y25 else some false else (uA N a x1 c).bind fun y28 => bif decide ((y2.2.2 : Int) = 0) then (slices_Equal_int y2.1 y28.1).bind fun Vk => bif Vk then (j5 y2.2.1 y28.2).bind fun Aw => some Aw else some false else some false
def kS (N : Nat) (a : List bL) (c : Int) (x1 : Int) : Option Bool :=
  (FB N a x1 c).bind fun y2 => (l9 a).bind fun y13 => bif (decide ((y13 : Int) = 0) && (((decide ((x1 : Int) < 1) || decide ((2000 : Int) < x1)) || decide ((c : Int) < 0)) || decide ((120 : Int) < c))) then jA N y2 a x1 c 3 else jA N y2 a x1 c y13
def vv (N : Nat) (a : List bL) (b : Int) (c : Int) : Option Bool :=
  bif (decide ((300 : Int) < b) && decide ((b : Int) ≤ 2000)) then ib (jV (1 + (Int.tmod b 300))) (kS N a c (1 + (Int.tmod b 300))) else kS N a c b
theorem Ee (N : Nat) (w0 : World) (M : BS) (hM : ∀ b, M b → b < w0.heap.size) (hT : ze Tryz.prog 4 w0) (va : Value) (a : List bL) (ha : gX jk w0 M va a) (b : Int) (c : Int) (r : Bool) (hs : vv N a b c = some r) :
    Calls Tryz.prog 10 #[va, (I6 b), (I6 c)] w0 (fun e w' => Grow w0 w' ∧ e = .returned (.bool r)) := by
 refine aQ (args := [va, (I6 b), (I6 c)]) Tryz.func10 rfl Tryz.ntmps10 (bF rfl) ?_
 have h := SH.init hM
 replace h := h.QH 1 ha bH
 have vC := ha.bT
 refine nG (aa (ae (v := (.bool (false))) rfl) (nN (bX (σ := Int) (inl ([1] ++ rg 13 9)) (fun x1 => [(1, (I6 x1))]) (fun x1 w => SH w0 M BE w (hset [(1, .rd jk va a)]) ∧ kS N a c x1 = some r) ?_ ?_)))
 rintro x1 w dO ⟨h, hs⟩
 refine nG (aa (ah (v := va) rfl) (aa (ah (v := (I6 x1)) rfl) (aa (ah (v := (I6 c)) rfl) ?_)))
 obtain ⟨y2, e3, hs⟩ := aK hs
 refine aX fnOk33 rfl rfl (Nv N _ _ h.lt va a (h.iD 1 rfl) x1 c _ e3) ?_
 rintro _ w ⟨k11, u4, u7, u9, rfl, g5, g6, g8, g10⟩
 refine ⟨_, rfl, ?_⟩
 replace h := h.mK 2 k11 g5 g6
 replace h := h.dA 3 g8.upO
 replace h := h.dA 4 g10.upO.up
 refine aa (ah (v := (.tuple #[u4, (.agg #[u7, u9, (I6 y2.2.1.status), (I6 y2.2.1.aL)]), (I6 y2.2.2)])) rfl) (aa (bu rfl rfl) (aa (bu rfl rfl) (aa (bu rfl rfl) (bP h 5 bM fun w b12 h => aa (ae (v := u4) rfl) (dH (vs := [u7, u9, (I6 y2.2.1.status), (I6 y2.2.1.aL)]) h 5 [u7, u9, (I6 y2.2.1.status), (I6 y2.2.1.aL)] rfl bM rfl rfl rfl rfl rfl (ai (h.iD 3 rfl).one (ai (h.iD 4 rfl).one (ai rfl (ai rfl aS)))) fun w h => aa (ae (v := (I6 y2.2.2)) rfl) (nJ (aa (ah (v := va) rfl) ?_)))))))
 obtain ⟨y13, e14, hs⟩ := aK hs
 refine aX fnOk21 rfl rfl (De _ _ h.lt va a (h.ny 1 rfl) _ e14) ?_
 rintro _ w ⟨k15, rfl⟩
 refine ⟨_, rfl, ?_⟩
 replace h := h.grow k15
 refine aa (ae (v := (I6 y13)) rfl) (nN (bX (σ := Int) (inl ([10] ++ rg 32 18)) (fun oD => [(10, (I6 oD))]) (fun oD w => SH w0 M BE w (hset [(1, .rd jk va a), (2, .own eP 3 u4 y2.1), (3, .rd fC u7 y2.2.1.frames), (4, .rd (rU bC) u9 y2.2.1.cells), (5, .blk b12 [u7, u9, (I6 y2.2.1.status), (I6 y2.2.1.aL)])]) ∧ jA N y2 a x1 c oD = some r) ?_ ?_))
 rintro oD w dO ⟨h, hs⟩
 refine aM (nG ?_)
 obtain ⟨Ex, e18, hs⟩ := aK hs
 refine aX fnOk34 rfl rfl (Af N _ _ h.lt (hT.go h.keep)  _ e18) ?_
 rintro _ w ⟨k19, rfl⟩
 refine ⟨_, rfl, ?_⟩
 replace h := h.grow k19
 refine aa (gL rfl) (aa (ah (v := (.bool ((!Ex)))) rfl) (aG rfl rfl (fun q => ah (v := (I6 oD)) rfl) (aG rfl rfl (fun q => iA (eD q) rfl) (aa (iJ rfl rfl nC) (nN (aI hs rfl (fun c20 hs => ?_) (fun c20 hs => ?_)))))))
 refine nG ?_
 obtain ⟨y21, e22, hs⟩ := aK hs
 refine aX fnOk34 rfl rfl (Af N _ _ h.lt (hT.go h.keep)  _ e22) ?_
 rintro _ w ⟨k23, rfl⟩
 refine ⟨_, rfl, ?_⟩
 replace h := h.grow k23
 refine aa (ah (v := (.bool (y21))) rfl) (aG rfl rfl (fun q => ah (v := (I6 y2.2.2)) rfl) (aG rfl rfl (fun q => ah (v := (I6 oD)) rfl) (aG rfl rfl (fun q => bz (eD q) (eD q)) (aa (gZ rfl rfl nC) (aa (ah (v := (.bool ((y21 && decide ((y2.2.2 : Int) = oD))))) rfl) (aG rfl rfl (fun q => ah (v := u4) rfl) (aG rfl rfl (fun q => bW bV (eD q) (h.eG 2 rfl)) (aG rfl rfl (fun q => bz (eD q) rfl) (aa (gZ rfl rfl nC) (aa (ah (v := (.bool (((y21 && decide ((y2.2.2 : Int) = oD)) && decide (((y2.1.length : Int) : Int) = 0))))) rfl) (kT (b := ((y21 && decide ((y2.2.2 : Int) = oD)) && decide (((y2.1.length : Int) : Int) = 0))) hs (fun c24 hs => ?_) (fun c24 hs => ?_))))))))))))
 refine eT rfl (cB c24) (aa (dK (vs := [u7, u9, (I6 y2.2.1.status), (I6 y2.2.1.aL)]) h 5 rfl bM rfl rfl rfl) (eT rfl (cB c24) (aa (ek (pv := []) (out := [(.slice none 0 0), (.slice none 0 0), (I6 0), (I6 0)]) rA rfl rfl) (eT rfl (cB c24) ?_))))
 obtain ⟨y25, e26, hs⟩ := aK hs
 refine aX YN rfl rfl (wY _ _ h.lt y2.2.1 u7 u9 (h.ny 3 rfl) (h.ny 4 rfl) (⟨[], [], 0, 0⟩ : LX.State) (.slice none 0 0) (.slice none 0 0) gy.nil gy.nil _ e26) ?_
 rintro _ w ⟨k27, rfl⟩
 refine ⟨_, rfl, ?_⟩
 replace h := h.grow k27
 refine aa (fB (b := true) (v := (.bool (y25))) (cB c24) rfl) (aa (ae (v := (.bool (y25))) rfl) (nR (ay (dD (v := (.bool (y25))) Tryz.results10 rfl ?_))))
 obtain rfl := fP hs
 exact ⟨h.grown, rfl⟩
 refine vT rfl (cB c24) rfl (vT rfl (cB c24) rfl (vT rfl (cB c24) rfl (aa (fB (b := false) (v := (.bool (false))) (cB c24) rfl) (aa (ae (v := (.bool (false))) rfl) (nR (ay (dD (v := (.bool (false))) Tryz.results10 rfl ?_)))))))
 obtain rfl := fP hs
 exact ⟨h.grown, rfl⟩
 refine nS (aa (ah (v := va) rfl) (aa (ah (v := (I6 x1)) rfl) (aa (ah (v := (I6 c)) rfl) ?_)))
 obtain ⟨y28, e29, hs⟩ := aK hs
 refine aX fnOk35 rfl rfl (Gg N _ _ h.lt va a (h.iD 1 rfl) x1 c _ e29) ?_
 rintro _ w ⟨k37, u30, u33, u35, rfl, g31, g32, g34, g36⟩
 refine ⟨_, rfl, ?_⟩
 replace h := h.mK 6 k37 g31 g32
 replace h := h.dA 7 g34.upO
 replace h := h.dA 8 g36.upO.up
 refine aa (ah (v := (.tuple #[u30, (.agg #[u33, u35, (I6 y28.2.status), (I6 y28.2.aL)])])) rfl) (aa (bu rfl rfl) (aa (bu rfl rfl) (bP h 9 bM fun w b38 h => aa (ae (v := u30) rfl) (dH (vs := [u33, u35, (I6 y28.2.status), (I6 y28.2.aL)]) h 9 [u33, u35, (I6 y28.2.status), (I6 y28.2.aL)] rfl bM rfl rfl rfl rfl rfl (ai (h.iD 7 rfl).one (ai (h.iD 8 rfl).one (ai rfl (ai rfl aS)))) fun w h => nJ (aa (ah (v := (I6 y2.2.2)) rfl) (aa (bz rfl rfl) (aa (ah (v := (.bool (decide ((y2.2.2 : Int) = 0)))) rfl) (kT (b := decide ((y2.2.2 : Int) = 0)) hs (fun Zb hs => ?_) (fun Zb hs => ?_)))))))))
 refine eT rfl (cB Zb) (aa (ah (v := u4) rfl) (eT rfl (cB Zb) (aa (ah (v := u30) rfl) (eT rfl (cB Zb) ?_))))
 obtain ⟨Vk, e41, hs⟩ := aK hs
 refine aX YM rfl rfl (Bi _ _ h.lt u4 y2.1 (h.eG 2 rfl) u30 y28.1 (h.eG 6 rfl) _ e41) ?_
 rintro _ w ⟨X6, rfl⟩
 refine ⟨_, rfl, ?_⟩
 replace h := h.grow X6
 refine aa (fB (b := true) (v := (.bool (Vk))) (cB Zb) rfl) (aa (ah (v := (.bool (Vk))) rfl) (kT (b := Vk) hs (fun Tq hs => ?_) (fun Tq hs => ?_)))
 refine eT rfl (cB Tq) (aa (dK (vs := [u7, u9, (I6 y2.2.1.status), (I6 y2.2.1.aL)]) h 5 rfl bM rfl rfl rfl) (eT rfl (cB Tq) (aa (dK (vs := [u33, u35, (I6 y28.2.status), (I6 y28.2.aL)]) h 9 rfl bM rfl rfl rfl) (eT rfl (cB Tq) ?_))))
 obtain ⟨Aw, e45, hs⟩ := aK hs
 refine aX YN rfl rfl (wY _ _ h.lt y2.2.1 u7 u9 (h.ny 3 rfl) (h.ny 4 rfl) y28.2 u33 u35 (h.ny 7 rfl) (h.ny 8 rfl) _ e45) ?_
 rintro _ w ⟨k46, rfl⟩
 refine ⟨_, rfl, ?_⟩
 replace h := h.grow k46
 refine aa (fB (b := true) (v := (.bool (Aw))) (cB Tq) rfl) (aa (ae (v := (.bool (Aw))) rfl) (nR (dD (v := (.bool (Aw))) Tryz.results10 rfl ?_)))
 obtain rfl := fP hs
 exact ⟨h.grown, rfl⟩
 refine vT rfl (cB Tq) rfl (vT rfl (cB Tq) rfl (vT rfl (cB Tq) rfl (aa (fB (b := false) (v := (.bool (false))) (cB Tq) rfl) (aa (ae (v := (.bool (false))) rfl) (nR (dD (v := (.bool (false))) Tryz.results10 rfl ?_))))))
 obtain rfl := fP hs
 exact ⟨h.grown, rfl⟩
 refine vT rfl (cB Zb) rfl (vT rfl (cB Zb) rfl (vT rfl (cB Zb) rfl (aa (fB (b := false) (v := (.bool (false))) (cB Zb) rfl) (aa (ah (v := (.bool (false))) rfl) (nM (b' := false) rfl rfl rfl (nM (b' := false) rfl rfl rfl (nM (b' := false) rfl rfl rfl (aa (fB (b := false) (v := (.bool (false))) rfl rfl) (aa (ae (v := (.bool (false))) rfl) (nR (dD (v := (.bool (false))) Tryz.results10 rfl ?_)))))))))))
 obtain rfl := fP hs
 exact ⟨h.grown, rfl⟩
 refine nG (aa (ah (v := (I6 y13)) rfl) (aa (bz rfl rfl) (aa (ah (v := (.bool (decide ((y13 : Int) = 0)))) rfl) (aG rfl rfl (fun q => ah (v := (I6 x1)) rfl) (aG rfl rfl (fun q => eB (eD q) rfl) (aG rfl rfl (fun q => ah (v := (.bool (decide ((x1 : Int) < 1)))) (eD q)) (kG (decide ((y13 : Int) = 0) == true) rfl rfl (fun q => ah (v := (I6 x1)) rfl) (kG (decide ((y13 : Int) = 0) == true) rfl rfl (fun q => lT (eD q) rfl) (aG rfl rfl (fun q => iJ (eD q) (QN q) nC) (aG rfl rfl (fun q => ah (v := (.bool ((decide ((x1 : Int) < 1) || decide ((2000 : Int) < x1))))) (eD q)) (kG (decide ((y13 : Int) = 0) == true) rfl rfl (fun q => ah (v := (I6 c)) rfl) (kG (decide ((y13 : Int) = 0) == true) rfl rfl (fun q => eB (eD q) rfl) (aG rfl rfl (fun q => iJ (eD q) (QN q) nC) (aG rfl rfl (fun q => ah (v := (.bool (((decide ((x1 : Int) < 1) || decide ((2000 : Int) < x1)) || decide ((c : Int) < 0))))) (eD q)) (kG (decide ((y13 : Int) = 0) == true) rfl rfl (fun q => ah (v := (I6 c)) rfl) (kG (decide ((y13 : Int) = 0) == true) rfl rfl (fun q => lT (eD q) rfl) (aG rfl rfl (fun q => iJ (eD q) (QN q) nC) (aa (gZ rfl rfl nC) (nN (aI hs rfl (fun c47 hs => ?_) (fun c47 hs => ?_)))))))))))))))))))))
 refine aC (aa (ae (v := (I6 3)) rfl) (az (au ?_)))
 exact bQ 3 ⟨h.cn _, hs⟩
 refine aH (au ?_)
 exact bQ y13 ⟨h.cn _, hs⟩
 refine nG (aa (ah (v := (I6 b)) rfl) (aa (lT rfl rfl) (aa (ah (v := (.bool (decide ((300 : Int) < b)))) rfl) (aG rfl rfl (fun q => ah (v := (I6 b)) rfl) (aG rfl rfl (fun q => Gh (eD q) rfl) (aa (gZ rfl rfl nC) (nN (aI hs rfl (fun c48 hs => ?_) (fun c48 hs => ?_)))))))))
 refine aC (aa (ah (v := (I6 b)) rfl) (aa (r_remL (m := 300) rfl rfl (by decide)) ?_))
 obtain ⟨a49, hs⟩ := bB hs
 refine aa (dP rfl rfl a49) (aa (ae (v := (I6 ((1 + (Int.tmod b 300))))) rfl) (az (au ?_)))
 exact bQ (1 + (Int.tmod b 300)) ⟨h.cn _, hs⟩
 refine aH (au ?_)
 exact bQ b ⟨h.cn _, hs⟩
end
end Go.Proofs.YtfclkapelkhlpaaGreatDoor
namespace Go.Proofs.YtfclkapelkhlpaaGreatDoor
open Go Go.Proofs Go.LX
theorem Nw : qP NN = some true := by
  unfold qP
  rw [XN]
  kernel_rfl
end Go.Proofs.YtfclkapelkhlpaaGreatDoor
namespace Go.Proofs.YtfclkapelkhlpaaGreatDoor
open Go Go.Proofs Go.LX
def wake (s : LX.State) : LX.State := if s.status = 3 then ⟨s.frames, s.cells, 0, 0⟩ else s
theorem UL {s : LX.State} (h : s.status = 0) : wake s = s := by unfold wake; rw [if_neg (by omega)]
def Ag (a : List bL) (fuel : Nat) : Nat → List Int → LX.State → List Int × LX.State
  | 0, all, s => (all, s)
  | t + 1, all, s => if (wake s).status ≠ 0 then (all, s) else Ag a fuel t (all ++ (pK a fuel [] 0 (wake s)).2.1) (pK a fuel [] 0 (wake s)).1
theorem Ny {a : List bL} {fuel : Nat} {s : LX.State} (h : (wake s).status ≠ 0) (all : List Int) : ∀ t, Ag a fuel t all s = (all, s)
  | 0 => rfl
  | t + 1 => by unfold Ag; rw [if_pos h]
theorem Sz {a : List bL} {fuel : Nat} {s : LX.State} (h : ¬ (wake s).status ≠ 0) (all : List Int) (t : Nat) : Ag a fuel (t + 1) all s = Ag a fuel t (all ++ (pK a fuel [] 0 (wake s)).2.1) (pK a fuel [] 0 (wake s)).1 := by
  conv => lhs; unfold Ag
  rw [if_neg h]
end Go.Proofs.YtfclkapelkhlpaaGreatDoor
namespace Go.Proofs.YtfclkapelkhlpaaGreatDoor
open Go Go.Proofs Go.LX
theorem VH {a : List bL} {s : LX.State} (h : vN a s) : vN a (wake s) := by
  unfold wake
  by_cases h3 : s.status = 3
  · rw [if_pos h3]
    refine ⟨by simp, by simp, fun _ => rfl, ?_, h.many, h.cells, h.frames⟩
    have := h.ended
    constructor
    · intro e; simp at e
    · intro e
      have := h.ended.2 e
      omega
  · rw [if_neg h3]; exact h
theorem Lu (s : LX.State) (h : s.status = 3) : wake s = ⟨s.frames, s.cells, 0, 0⟩ := if_pos h
theorem Pk {a : List bL} (hc : Ni a = 0) {b c : Int} (hb : 1 ≤ b ∧ b ≤ 2000) (hcc : c ≤ 120) {N : Nat} (hN : 3000 ≤ N) : ∀ (m M i : Nat) (all : List Int) (s : LX.State), (i : Int) + m = c → m < M → all.length ≤ 40 * i → vN a s →
    again (tJ N c a b) M (all, (i : Int), s.frames, s.cells, s.status, s.aL) = some ((Ag a b.toNat m all s).1, (Ag a b.toNat m all s).2, 0)
  | m, 0, i, all, s, hi, hM, hl, hs => by omega
  | 0, M + 1, i, all, s, hi, hM, hl, hs => by
    rw [xY]
    unfold tJ zO Ag
    simp only
    rw [dF (by omega), cond_false]
  | m + 1, M + 1, i, all, s, hi, hM, hl, hs => by
    rw [xY]
    have ha := zN hc
    have ih := Pk hc hb hcc hN m M (i + 1)
    generalize again (tJ N c a b) M = K at ih ⊢
    have go : yf N all a b i K (wake s).frames (wake s).cells (wake s).status (wake s).aL = some ((Ag a b.toNat (m + 1) all s).1, (Ag a b.toNat (m + 1) all s).2, 0) := by
      unfold yf
      by_cases h0 : (wake s).status = 0
      · have hw := VH hs
        rw [dF (by omega), cond_false, show (⟨(wake s).frames, (wake s).cells, (wake s).status, (wake s).aL⟩ : LX.State) = wake s from rfl, XY a _ b hN, bnd, if_neg (by omega), if_neg (by rw [Qx.2 hw]; omega), if_neg (by omega), if_neg (by omega)]
        simp only
        obtain ⟨k1, hlen, -⟩ := Ku ha b.toNat [] 0 (wake s) hw (by simp)
        rw [dF (by simp), cond_false, Sz (by omega)]
        rw [oq (room_le (by omega) (by decide)), gI (by omega) (by omega)]
        have := ih (all ++ (pK a b.toNat [] 0 (wake s)).2.1) (pK a b.toNat [] 0 (wake s)).1 (by push_cast; omega) (by omega) (by rw [List.length_append]; omega) k1
        rw [← this]; push_cast; rfl
      · have h3 : s.status ≠ 3 := fun h => h0 (by rw [Lu s h])
        rw [dT h0, cond_true, Ny h0]
        unfold zO
        rw [show (⟨(wake s).frames, (wake s).cells, (wake s).status, (wake s).aL⟩ : LX.State) = wake s from rfl, show wake s = s from if_neg h3]
    unfold tJ
    simp only
    rw [dT (by omega), cond_true]
    by_cases h3 : s.status = 3
    · rw [dT h3, cond_true, show (⟨s.frames, s.cells, s.status, s.aL⟩ : LX.State) = s from rfl, UK, bnd, if_neg (by omega), if_neg (by rw [Qx.2 hs]; omega), if_neg (by omega)]
      simp only
      rw [dF (by simp), cond_false]
      rw [Lu s h3] at go
      exact go
    · rw [dF h3, cond_false]
      rw [show wake s = s from if_neg h3] at go
      exact go
theorem SA (a : List bL) (b c : Int) {N : Nat} (hN : 3000 ≤ N) : FB N a b c = some (if Ni a ≠ 0 then ([], ⟨[], [], 0, 0⟩, Ni a) else if b < 1 ∨ 2000 < b ∨ c < 0 ∨ 120 < c then ([], ⟨[], [], 0, 0⟩, 3) else ((Ag a b.toNat c.toNat [] (vS a)).1, (Ag a b.toNat c.toNat [] (vS a)).2, 0)) := by
  unfold FB
  rw [XZ, bnd]
  by_cases h1 : Ni a = 0
  · have ha := zN h1
    rw [if_neg (by omega), if_neg (by omega)]
    simp only
    rw [dF (by simp), cond_false]
    by_cases h2 : b < 1 ∨ 2000 < b ∨ c < 0 ∨ 120 < c
    · rw [if_pos h2, show (((decide ((b : Int) < 1) || decide ((2000 : Int) < b)) || decide ((c : Int) < 0)) || decide ((120 : Int) < c)) = true by
        simp only [Bool.or_eq_true, decide_eq_true_eq]; omega, cond_true]
    · rw [if_neg h2, show (((decide ((b : Int) < 1) || decide ((2000 : Int) < b)) || decide ((c : Int) < 0)) || decide ((120 : Int) < c)) = false by
        simp only [Bool.or_eq_false_iff, decide_eq_false_iff_not]; omega, cond_false]
      exact Pk h1 (by omega) (by omega) hN c.toNat N 0 [] (vS a) (by omega) (by omega) (by simp) (Su ha)
  · rw [if_pos h1, if_pos h1]
    simp only
    rw [dT h1, cond_true]
theorem Nz {a : List bL} (hc : Ni a = 0) {b : Int} (hb : 1 ≤ b ∧ b ≤ 2000) {N : Nat} (hN : 3000 ≤ N) : ∀ (m M i : Nat) (all : List Int) (s : LX.State), i + m ≤ 120 → m < M → all.length ≤ 40 * i → vN a s →
    again (jP N a b) M ((m : Int), all, s.frames, s.cells, s.status, s.aL) = some (Ag a b.toNat m all s)
  | m, 0, i, all, s, hi, hM, hl, hs => by omega
  | 0, M + 1, i, all, s, hi, hM, hl, hs => by
    rw [xY]
    unfold jP Ag
    simp only
    rw [dF (by omega), Bool.false_and, cond_false]
  | m + 1, M + 1, i, all, s, hi, hM, hl, hs => by
    rw [xY]
    have ha := zN hc
    have ih := Nz hc hb hN m M (i + 1)
    generalize again (jP N a b) M = K at ih ⊢
    unfold jP
    simp only
    by_cases h0 : (wake s).status = 0
    · have hw := VH hs
      have hst : s.status = 0 ∨ s.status = 3 := by
        by_cases h3 : s.status = 3
        · exact .inr h3
        · rw [show wake s = s from if_neg h3] at h0; exact .inl h0
      have hw0 : (⟨s.frames, s.cells, 0, 0⟩ : LX.State) = wake s := by
        rcases hst with h | h
        · rw [UL h]
          have := hs.stay (by omega)
          cases s; simp only at h this ⊢; rw [h, this]
        · rw [Lu s h]
      rw [show (decide ((0 : Int) < ((m + 1 : Nat) : Int)) && (decide ((s.status : Int) = 0) || decide ((s.status : Int) = 3))) = true by
        rw [dT (by omega), Bool.true_and, Bool.or_eq_true, decide_eq_true_eq, decide_eq_true_eq]; exact hst, cond_true, hw0, ranOn_eq ha hw h0 (by omega) hN, bnd, Sz (by omega)]
      simp only
      obtain ⟨k1, hlen, -⟩ := Ku ha b.toNat [] 0 (wake s) hw (by simp)
      rw [oq (room_le (by omega) (by decide)), gI (by omega) (by omega), show (((m + 1 : Nat) : Int) - 1) = (m : Int) by omega]
      exact ih (all ++ (pK a b.toNat [] 0 (wake s)).2.1) (pK a b.toNat [] 0 (wake s)).1 (by omega) (by omega) (by rw [List.length_append]; omega) k1
    · have h3 : s.status ≠ 3 := fun h => h0 (by rw [Lu s h])
      rw [show wake s = s from if_neg h3] at h0
      rw [dF h0, dF h3, Bool.or_self, Bool.and_false, cond_false, Ny (by rw [show wake s = s from if_neg h3]; exact h0)]
theorem alone_eq {a : List bL} (hc : Ni a = 0) {b c : Int} (hb : 1 ≤ b ∧ b ≤ 2000) (hcc : 0 ≤ c ∧ c ≤ 120) {N : Nat} (hN : 3000 ≤ N) : uA N a b c = some (Ag a b.toNat c.toNat [] (vS a)) := by
  have ha := zN hc
  obtain ⟨x, hx⟩ := H9 ha
  have hr := (ha.mem hx).2.2.1
  unfold uA
  rw [hx, bnd, oq (by omega)]
  have := Nz hc hb hN c.toNat N 0 [] (vS a) (by omega) (by omega) (by simp) (Su ha)
  rw [← this, Int.toNat_of_nonneg hcc.1]
  unfold vS
  rw [hx]; rfl
theorem soloSays (a : List bL) (b c : Int) : ∃ N, vv N a b c = some true := by
  refine ⟨NN, ?_⟩
  have main : ∀ b, kS NN a c b = some true := by
    intro b
    unfold kS
    rw [SA a b c NN_big, bnd, chk_eq2, bnd]
    by_cases h1 : Ni a = 0
    · rw [if_neg (by omega), dT h1, Bool.true_and]
      by_cases h2 : b < 1 ∨ 2000 < b ∨ c < 0 ∨ 120 < c
      · rw [if_pos h2, show (((decide ((b : Int) < 1) || decide ((2000 : Int) < b)) || decide ((c : Int) < 0)) || decide ((120 : Int) < c)) = true by
          simp only [Bool.or_eq_true, decide_eq_true_eq]; omega, cond_true]
        unfold jA
        rw [Nw, bnd]
        simp only
        rw [show ((!true) || decide ((3 : Int) ≠ 0)) = true by simp, cond_true, bnd]
        simp [Kv]
      · rw [if_neg h2, show (((decide ((b : Int) < 1) || decide ((2000 : Int) < b)) || decide ((c : Int) < 0)) || decide ((120 : Int) < c)) = false by
          simp only [Bool.or_eq_false_iff, decide_eq_false_iff_not]; omega, cond_false]
        unfold jA
        rw [Nw, bnd]
        simp only
        rw [h1, show ((!true) || decide ((0 : Int) ≠ 0)) = false by simp, cond_false, alone_eq h1 (by omega) (by omega) NN_big, bnd]
        simp [eqInt, Kv]
    · rw [if_pos h1, dF h1, Bool.false_and, cond_false]
      unfold jA
      rw [Nw, bnd]
      simp only
      rw [dT h1, Bool.or_true, cond_true, bnd]
      simp [Kv]
  unfold vv
  by_cases h : 300 < b ∧ b ≤ 2000
  · have h1 : Int.tmod b 300 < 300 := Int.tmod_lt_of_pos b (by omega)
    have h2 : 0 ≤ Int.tmod b 300 := Int.tmod_nonneg 300 (by omega)
    rw [dT h.1, dT h.2, Bool.and_self, cond_true, gI (by omega) (by omega)]
    exact main _
  · rw [show (decide ((300 : Int) < b) && decide ((b : Int) ≤ 2000)) = false by
      rw [Bool.and_eq_false_iff, decide_eq_false_iff_not, decide_eq_false_iff_not]; omega, cond_false]
    exact main _
end Go.Proofs.YtfclkapelkhlpaaGreatDoor
