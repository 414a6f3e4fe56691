/-
  Plain laws.
-/
import Derived.Test.YthlibjllfckhjaaDoorDskb
import Derived.Test.YthlibjllfckhjaaDoorRecLaw
set_option linter.unusedSimpArgs false
set_option linter.unusedVariables false
namespace Go.LX
/-! ### texts, cut at a byte: the first piece; the byte kept -/
theorem cutS_free {c : UInt8} {s : Str} (h : c ∉ s) (hl : s.length < 4294967281) : cutS s [c] = some (s, [], false) := by
  unfold cutS
  rw [grd_t hl]
  rcases idx1 c s with ⟨h1, h2⟩ | ⟨x, r, h1, h2, h3⟩
  · unfold Lib.cut; rw [h1, if_neg (by decide)]
  · exact absurd (by rw [h1]; simp) h
theorem cutS_hit {c : UInt8} {x r : Str} (h : c ∉ x) (hl : (x ++ c :: r).length < 4294967281) : cutS (x ++ c :: r) [c] = some (x, r, true) := by
  unfold cutS
  rw [grd_t hl]
  rcases idx1 c (x ++ c :: r) with ⟨h1, h2⟩ | ⟨y, q, h1, h2, h3⟩
  · exact absurd (by simp) h2
  · have e : x = y ∧ r = q := by
      have k1 := splitC_app (r := r) h
      have k2 := splitC_app (r := q) h2
      rw [← h1, k1] at k2
      injection k2 with k2 k3
      subst k2
      refine ⟨rfl, ?_⟩
      have := List.append_cancel_left h1
      injection this
    obtain ⟨rfl, rfl⟩ := e
    unfold Lib.cut
    rw [h3, if_pos (by omega)]
    simp only [Int.toNat_natCast]
    rw [List.take_left, show x.length + [c].length = (x ++ [c]).length by simp, show x ++ c :: r = (x ++ [c]) ++ r by simp, List.drop_left]
/-- All pieces but the last keep the byte. -/
def addC (c : UInt8) : List Str → List Str
  | [] => []
  | [x] => [x]
  | x :: y :: r => (x ++ [c]) :: addC c (y :: r)
theorem addC_cons (c : UInt8) (x : Str) {l : List Str} (h : l ≠ []) : addC c (x :: l) = (x ++ [c]) :: addC c l := by
  cases l with
  | nil => exact absurd rfl h
  | cons y r => rfl
theorem splitK_A (c : UInt8) : ∀ (k : Nat) (s : Str), Lib.count s [c] = k → Lib.splitK [c] 1 k s = addC c (splitC c s) := by
  intro k
  induction k with
  | zero =>
    intro s hs
    rcases idx1 c s with ⟨h1, h2⟩ | ⟨x, r, h1, h2, h3⟩
    · rw [splitC_free h2]; rfl
    · rw [Lib.count_hit (by simp) h3] at hs; omega
  | succ k ih =>
    intro s hs
    rcases idx1 c s with ⟨h1, h2⟩ | ⟨x, r, h1, h2, h3⟩
    · rw [Lib.count_miss h1] at hs; omega
    · have hm : ¬ (Lib.index s [c] == -1) = true := by rw [h3]; simp
      rw [Lib.count_hit (by simp) h3] at hs
      have hd : s.drop (x.length + [c].length) = r := by rw [h1]; simp
      rw [Lib.splitK, if_neg hm, h3]
      simp only [Int.toNat_natCast]
      rw [hd] at hs ⊢
      rw [ih r (by omega), h1, splitC_app h2, addC_cons c x (splitC_ne c r)]
      congr 1
      rw [show x.length + 1 = (x ++ [c]).length by simp, show x ++ c :: r = (x ++ [c]) ++ r by simp, List.take_left]
theorem splitAfterS_eq {s : Str} (c : UInt8) (h : s.length < 4294967281) : splitAfterS s [c] = some (addC c (splitC c s)) := by
  unfold splitAfterS
  rw [grd_t ⟨h, Nat.le_refl _⟩]
  exact congrArg some (splitK_A c _ s rfl)
theorem hasSuf_app {c : UInt8} (x : Str) (h : (x ++ [c]).length ≤ 281474976710656) : hasSufS (x ++ [c]) [c] = some true := by
  unfold hasSufS
  rw [grd_t h]
  simp [Lib.hasSuffix]
theorem hasSuf_free {c : UInt8} {x : Str} (hx : c ∉ x) (h : x.length ≤ 281474976710656) : hasSufS x [c] = some false := by
  unfold hasSufS
  rw [grd_t h]
  have : ¬ [c] <:+ x := fun hs => hx (hs.subset (by simp))
  cases hq : [c].isSuffixOf x with
  | false => simp [Lib.hasSuffix, hq]
  | true => exact absurd (List.isSuffixOf_iff_suffix.1 hq) this
/-- A text is its pieces. -/
theorem splitC_cons {c : UInt8} {s x y : Str} {l : List Str} (h : splitC c s = x :: y :: l) : ∃ r, s = x ++ c :: r ∧ splitC c r = y :: l ∧ c ∉ x := by
  have hx := (splitC_mem c s x (by rw [h]; exact List.mem_cons_self)).2
  have h1 := join_splitC c s
  rw [h, joinC_cons] at h1
  refine ⟨joinC c (y :: l), h1.symm, ?_, hx⟩
  rw [← h1, splitC_app hx] at h
  injection h
theorem splitC_single {c : UInt8} {s x : Str} (h : splitC c s = [x]) : s = x ∧ c ∉ x := by
  have hx := (splitC_mem c s x (by rw [h]; exact List.mem_cons_self)).2
  have h1 := join_splitC c s
  rw [h, joinC_one] at h1
  exact ⟨h1.symm, hx⟩
end Go.LX

namespace Go.Proofs.YthlibjllfckhjaaDoor
open Go Go.Proofs Go.LX
/-- The records of a text's lines, as far as they are whole. -/
def lnP (most : Int) : List Str → List Rec → Int → List Rec × Int × Int
  | [], l, n => (l, n, 0)
  | [x], l, n => if x = [] then (l, n, 0) else (l, n, 8)
  | x :: y :: r, l, n => if (recRead x).2 ≠ 0 then (l, n, (recRead x).2) else if most ≤ (l.length : Int) then (l, n, 2) else lnP most (y :: r) (l ++ [(recRead x).1]) (n + (x.length : Int) + 1)
def ln (most : Int) (s : Str) : List Rec × Int × Int := lnP most (splitC 10 s) [] 0
theorem lnP_cons {most : Int} {x : Str} {q : List Str} {l : List Rec} {n : Int} (hq : q ≠ []) : lnP most (x :: q) l n = if (recRead x).2 ≠ 0 then (l, n, (recRead x).2) else if most ≤ (l.length : Int) then (l, n, 2) else lnP most q (l ++ [(recRead x).1]) (n + (x.length : Int) + 1) := by
  cases q with
  | nil => exact absurd rfl hq
  | cons y r => rfl
theorem joinC_len2 (c : UInt8) (x y : Str) (l : List Str) : (joinC c (x :: y :: l)).length = x.length + 1 + (joinC c (y :: l)).length := by
  rw [joinC_cons, List.length_append, List.length_cons]; omega
theorem lnP_len (most : Int) : ∀ (p : List Str) (l : List Rec) (n : Int), 0 ≤ n → n ≤ (lnP most p l n).2.1 ∧ (lnP most p l n).2.1 ≤ n + (joinC 10 p).length ∧ (lnP most p l n).1.length + 0 ≤ l.length + p.length ∧ l.length ≤ (lnP most p l n).1.length ∧ ((l.length : Int) ≤ most → ((lnP most p l n).1.length : Int) ≤ most)
  | [], l, n, hn => by simp [lnP]; omega
  | [x], l, n, hn => by
    unfold lnP
    split <;> simp <;> omega
  | x :: y :: r, l, n, hn => by
    have hj := joinC_len2 10 x y r
    unfold lnP
    split
    · simp; omega
    · split
      · simp; omega
      · have ih := lnP_len most (y :: r) (l ++ [(recRead x).1]) (n + (x.length : Int) + 1) (by omega)
        simp only [List.length_append, List.length_cons, List.length_nil] at ih ⊢
        omega
theorem splitC_count (c : UInt8) : ∀ (s : Str), (splitC c s).length ≤ s.length + 1 := splitC_len c
/-- The program's lines. -/
theorem lines_loop (a : Str) (b : Int) (ha : a.length ≤ 60000) : ∀ (p : List Str) (s : Str) (l : List Rec) (N : Nat), splitC 10 s = p → s.length ≤ a.length → p.length ≤ N → l.length + p.length ≤ 60001 → (l.length : Int) ≤ b →
    again (disk_lines_b2 a b) N (s, l) = some (lnP b p l ((a.length : Int) - (s.length : Int))) := by
  intro p
  induction p with
  | nil => intro s l N hp; exact absurd hp (splitC_ne 10 s)
  | cons x q ih =>
    intro s l N hp hs hN hl hb
    cases N with
    | zero => simp at hN
    | succ N =>
    rw [again, disk_lines_b2]
    cases q with
    | nil =>
      obtain ⟨rfl, hx⟩ := splitC_single hp
      by_cases h0 : s = []
      · subst h0
        rw [dF (by simp), cond_false]
        simp [lnP]
      · rw [dT h0, cond_true, cutS_free hx (by omega), bnd]
        simp only [Bool.not_false, cond_true]
        rw [gI]
        simp [lnP, h0]
    | cons y r =>
      obtain ⟨t, rfl, ht, hx⟩ := splitC_cons hp
      have hlen : (x ++ 10 :: t).length = x.length + 1 + t.length := by simp; omega
      rw [dT (by simp), cond_true, cutS_hit hx (by omega), bnd]
      simp only [Bool.not_true, cond_false]
      have hpx : recParse x = recRead x := by unfold recParse; rw [if_neg (by omega)]
      rw [parse_eq, bnd, hpx, lnP_cons (by simp)]
      by_cases h1 : (recRead x).2 = 0
      · rw [dF (by omega), cond_false, if_neg (by omega)]
        by_cases h2 : (l.length : Int) = b
        · rw [dT h2, cond_true, gI, if_pos (by omega)]
        · rw [dF h2, cond_false, if_neg (by omega)]
          simp only [List.length_cons] at hN hl
          rw [grd_t ⟨by simp; omega, by simp; omega⟩, ih t (l ++ [(recRead x).1]) N ht (by omega) (by simp; omega) (by simp; omega) (by simp; omega)]
          congr 2
          omega
      · rw [dT h1, cond_true, gI, if_pos h1]
theorem lines_eq (N : Nat) (a : Str) (b : Int) (hN : 60002 ≤ N) (ha : a.length ≤ 60000) (hb : 0 ≤ b) : disk_lines N a b = some (ln b a) := by
  unfold disk_lines ln
  have h1 := splitC_len 10 a
  rw [lines_loop a b ha (splitC 10 a) a [] N rfl (Nat.le_refl _) (by omega) (by simp; omega) (by simpa using hb)]
  congr 2
  omega
/-- The document's lines. -/
theorem linesOf_loop (b : Int) : ∀ (p : List Str) (l : List Rec) (n : Int), (∀ x ∈ p, x.length ≤ 60000 ∧ (10 : UInt8) ∉ x) → p ≠ [] → l.length + p.length ≤ 60001 → 0 ≤ n → n + (joinC 10 p).length ≤ 60000 →
    each (wandererref_linesOf_b16 b) wandererref_linesOf_k17 (addC 10 p) (l, n) = some (lnP b p l n)
  | [], l, n, _, h, _, _, _ => absurd rfl h
  | [x], l, n, hx, _, hl, h0, hn => by
    have h1 := hx x (by simp)
    rw [addC, each_cons, wandererref_linesOf_b16]
    by_cases h : x = []
    · rw [dT h, cond_true]
      simp [lnP, h, wandererref_linesOf_j9]
    · rw [dF h, cond_false, hasSuf_free h1.2 (by omega), bnd]
      simp [lnP, h]
  | x :: y :: r, l, n, hx, _, hl, h0, hn => by
    have h1 := hx x (by simp)
    have hj := joinC_len2 10 x y r
    simp only [List.length_cons] at hl
    rw [addC, each_cons, wandererref_linesOf_b16]
    rw [dF (by simp), cond_false, hasSuf_app x (by simp; omega), bnd]
    simp only [Bool.not_true, cond_false]
    have hlen : (((x ++ [(10 : UInt8)]).length : Nat) : Int) = (x.length : Int) + 1 := by simp
    rw [hlen, gI]
    have hsub : subs? (x ++ [(10 : UInt8)]) 0 ((x.length : Int) + 1 - 1) = some x := by
      unfold subs?
      rw [grd_t ⟨by omega, by omega, by rw [hlen]; omega⟩]
      have e : ((x.length : Int) + 1 - 1).toNat = x.length := by omega
      simp [cut, e]
    rw [hsub, bnd, read_eq x h1.1, bnd, lnP_cons (by simp)]
    by_cases h2 : (recRead x).2 = 0
    · rw [dT h2, if_neg (by omega), Bool.true_and]
      by_cases h3 : b ≤ (l.length : Int)
      · rw [dT h3, cond_true, if_pos h3]
        simp [wandererref_linesOf_j15]
      · rw [dF h3, cond_false, if_neg h3, wandererref_linesOf_j15, dF (by omega), cond_false, grd_t ⟨by simp; omega, by simp; omega⟩, hlen, gI,
          linesOf_loop b (y :: r) (l ++ [(recRead x).1]) (n + ((x.length : Int) + 1)) (fun z hz => hx z (List.mem_cons_of_mem _ hz)) (by simp) (by simp; omega) (by omega) (by omega)]
        rw [Int.add_assoc]
    · rw [dF h2, Bool.false_and, cond_false, if_pos h2, wandererref_linesOf_j15, dT h2, cond_true]
theorem linesOf_eq (a : Str) (b : Int) (ha : a.length ≤ 60000) : wandererref_linesOf a b = some (ln b a) := by
  unfold wandererref_linesOf ln
  have h1 := splitC_len 10 a
  rw [splitAfterS_eq 10 (by omega), bnd, linesOf_loop b (splitC 10 a) [] 0 (fun x hx => by have := splitC_mem 10 a x hx; exact ⟨by omega, this.2⟩) (splitC_ne 10 a) (by simp; omega) (by omega) (by rw [join_splitC]; omega)]
/-! ### bytes -/
theorem eqByte (a b : Str) : slices_Equal_byte a b = some (decide (a = b)) := by
  unfold slices_Equal_byte
  by_cases h : a.length = b.length
  · rw [dF (by omega)]
    simp only [cond_false, Int.toNat_natCast]
    rw [upto_all2 (fun x y => decide (x = y)) a b h rfl (fun i x y nx h1 h2 => by
      unfold slices_Equal_byte_b3
      rw [idx_nat, idx_nat, h1, h2]
      by_cases e : x = y
      · subst e; simp
      · have : ¬ ((x.toNat : Int) = (y.toNat : Int)) := fun h => e (UInt8.toNat_inj.1 (by omega))
        simp [e, this]), all2_eq (fun _ _ => rfl)]
  · rw [dT (by omega)]
    have : a ≠ b := fun e => h (by rw [e])
    rw [dF this]; rfl
theorem diskSame (a b : Disk) : disk_Same a b = some (decide (a = b)) := by
  unfold disk_Same
  rw [eqByte, eqByte]
  obtain ⟨a1, a2⟩ := a
  obtain ⟨b1, b2⟩ := b
  simp only [Disk.mk.injEq, bnd]
  by_cases h1 : a1 = b1 <;> by_cases h2 : a2 = b2 <;> simp [h1, h2]
theorem diskSame2 (a b : Disk) : wandererref_SameDisk a b = some (decide (a = b)) := by rw [← diskSame]; rfl
theorem bcat5 : ∀ (l : List Str) (acc : Str), acc.length + (l.map List.length).sum ≤ 1000000 → each slices_Concat_byte_b5 slices_Concat_byte_k6 l acc = some (acc ++ l.flatten)
  | [], acc, _ => by simp [each_nil, slices_Concat_byte_k6]
  | x :: l, acc, h => by
    simp only [List.map_cons, List.sum_cons] at h
    rw [each_cons, slices_Concat_byte_b5, grd_t ⟨by omega, by omega⟩, bcat5 l (acc ++ x) (by rw [List.length_append]; omega)]
    simp
theorem bcat7 (a : List Str) : ∀ (l : List Str) (n : Nat), n + (l.map List.length).sum ≤ 1000000 → each slices_Concat_byte_b7 (slices_Concat_byte_k8 a) l (n : Int) = slices_Concat_byte_k8 a ((n + (l.map List.length).sum : Nat) : Int)
  | [], n, _ => by simp [each_nil]
  | x :: l, n, h => by
    simp only [List.map_cons, List.sum_cons] at h ⊢
    rw [each_cons, slices_Concat_byte_b7, gI, dF (by omega), cond_false, show ((n : Int) + (x.length : Int)) = ((n + x.length : Nat) : Int) by omega, bcat7 a l (n + x.length) (by omega), Nat.add_assoc]
theorem bcat (a b : Str) (h : a.length + b.length ≤ 1000000) : slices_Concat_byte [a, b] = some (a ++ b) := by
  unfold slices_Concat_byte
  have := bcat7 [a, b] [a, b] 0 (by simp; omega)
  rw [show ((0 : Nat) : Int) = 0 from rfl] at this
  rw [this]
  unfold slices_Concat_byte_k8
  rw [show growN 1 ((0 + ([a, b].map List.length).sum : Nat) : Int) = some ([] : Str) by unfold growN; rw [grd_t ⟨by omega, by simp; omega⟩], bnd, bcat5 [a, b] [] (by simp; omega)]
  simp
theorem rcat5 : ∀ (l : List (List Rec)) (acc : List Rec), acc.length + (l.map List.length).sum ≤ 1000000 → each slices_Concat_Rec_b5 slices_Concat_Rec_k6 l acc = some (acc ++ l.flatten)
  | [], acc, _ => by simp [each_nil, slices_Concat_Rec_k6]
  | x :: l, acc, h => by
    simp only [List.map_cons, List.sum_cons] at h
    rw [each_cons, slices_Concat_Rec_b5, grd_t ⟨by omega, by omega⟩, rcat5 l (acc ++ x) (by rw [List.length_append]; omega)]
    simp
theorem rcat7 (a : List (List Rec)) : ∀ (l : List (List Rec)) (n : Nat), n + (l.map List.length).sum ≤ 1000000 → each slices_Concat_Rec_b7 (slices_Concat_Rec_k8 a) l (n : Int) = slices_Concat_Rec_k8 a ((n + (l.map List.length).sum : Nat) : Int)
  | [], n, _ => by simp [each_nil]
  | x :: l, n, h => by
    simp only [List.map_cons, List.sum_cons] at h ⊢
    rw [each_cons, slices_Concat_Rec_b7, gI, dF (by omega), cond_false, show ((n : Int) + (x.length : Int)) = ((n + x.length : Nat) : Int) by omega, rcat7 a l (n + x.length) (by omega), Nat.add_assoc]
theorem rcat (a b : List Rec) (h : a.length + b.length ≤ 1000000) : slices_Concat_Rec [a, b] = some (a ++ b) := by
  unfold slices_Concat_Rec
  have := rcat7 [a, b] [a, b] 0 (by simp; omega)
  rw [show ((0 : Nat) : Int) = 0 from rfl] at this
  rw [this]
  unfold slices_Concat_Rec_k8
  rw [show growN 80 ((0 + ([a, b].map List.length).sum : Nat) : Int) = some ([] : List Rec) by unfold growN; rw [grd_t ⟨by omega, by simp; omega⟩], bnd, rcat5 [a, b] [] (by simp; omega)]
  simp
/-! ### the disk -/
def zD : Disk := ⟨[], []⟩
def dCheck (d : Disk) : Int := if 60000 < d.safe.length ∨ 60000 < d.safe.length + d.wait.length then 2 else (ln 120 d.safe).2.2
theorem check_eq (N : Nat) (hN : 60002 ≤ N) (d : Disk) (hw : d.wait.length ≤ 9223372036854775807) : disk_Check N d = some (dCheck d) := by
  unfold disk_Check dCheck
  by_cases h : 60000 < d.safe.length
  · rw [dT (by omega), cond_true, if_pos (.inl h)]; rfl
  · rw [dF (by omega), cond_false, gI]
    by_cases h2 : 60000 < d.safe.length + d.wait.length
    · rw [dT (by omega), if_pos (.inr h2)]; rfl
    · rw [dF (by omega), if_neg (by omega)]
      unfold disk_Check_j2
      rw [cond_false, lines_eq N d.safe 120 hN (by omega) (by omega), bnd]
theorem check_eq2 (d : Disk) (hw : d.wait.length ≤ 9223372036854775807) : wandererref_CheckDisk d = some (dCheck d) := by
  unfold wandererref_CheckDisk dCheck
  by_cases h : 60000 < d.safe.length
  · rw [dT (by omega), cond_true, if_pos (.inl h)]; rfl
  · rw [dF (by omega), cond_false, gI]
    by_cases h2 : 60000 < d.safe.length + d.wait.length
    · rw [dT (by omega), if_pos (.inr h2)]; rfl
    · rw [dF (by omega), if_neg (by omega)]
      unfold wandererref_CheckDisk_j2
      rw [cond_false, linesOf_eq d.safe 120 (by omega), bnd]
theorem check_ok {d : Disk} (h : dCheck d = 0) : d.safe.length + d.wait.length ≤ 60000 ∧ (ln 120 d.safe).2.2 = 0 := by
  unfold dCheck at h
  split at h
  · cases h
  · exact ⟨by omega, h⟩
def putT (d : Disk) (r : Rec) : Disk × Int :=
  if (recText r).2 ≠ 0 then (zD, (recText r).2) else if 60000 < d.safe.length + d.wait.length + (recText r).1.length + 1 then (zD, 2) else (⟨d.safe, d.wait ++ (recText r).1 ++ [10]⟩, 0)
def dPut (d : Disk) (r : Rec) : Disk × Int := if dCheck d ≠ 0 then (zD, dCheck d) else putT d r
theorem text_len {r : Rec} (w : RecW r) : (recText r).1.length ≤ 27390 := by
  unfold recText
  split
  · rename_i h
    have g := goodR r (by rw [← rec_eq]; exact h)
    have h1 := joinC_len 32 21 ((nl r).map Lib.itoa) (by intro x hx; obtain ⟨y, hy, rfl⟩ := List.mem_map.1 hx; exact itoa_len (nl_ok g w y hy))
    have h2 := nl_goodlen g
    rw [List.length_map] at h1
    show (joinC 32 ((nl r).map Lib.itoa)).length ≤ _
    omega
  · simp
theorem put_eq (N : Nat) (hN : 60002 ≤ N) (d : Disk) (r : Rec) (hw : d.wait.length ≤ 9223372036854775807) (w : RecW r) : disk_Put N d r = some (dPut d r) := by
  unfold disk_Put dPut putT
  rw [check_eq N hN d hw, bnd]
  by_cases h : dCheck d = 0
  · obtain ⟨h1, _⟩ := check_ok h
    have ht := text_len w
    rw [dF (by omega), cond_false, if_neg (by omega), print_eq r (fun _ => w), bnd]
    by_cases h2 : (recText r).2 = 0
    · rw [dF (by omega), cond_false, if_neg (by omega), gI, gI, gI]
      by_cases h3 : 60000 < d.safe.length + d.wait.length + (recText r).1.length + 1
      · rw [dT (by omega), cond_true, if_pos h3]; rfl
      · rw [dF (by omega), cond_false, if_neg h3, clone_s (by omega) (by omega), bnd, clone_s (by omega) (by omega), bnd, grd_t ⟨by omega, by omega⟩, grd_t ⟨by simp; omega, by simp; omega⟩]
    · rw [dT h2, cond_true, if_pos h2]; rfl
  · rw [dT h, cond_true, if_pos h]; rfl
theorem putOn_eq (d : Disk) (r : Rec) (h : dCheck d = 0) (w : RecW r) : wandererref_PutOn d r = some (putT d r) := by
  obtain ⟨h1, _⟩ := check_ok h
  have ht := text_len w
  unfold wandererref_PutOn putT
  rw [text_eq r (fun _ => w), bnd]
  by_cases h2 : (recText r).2 = 0
  · rw [dF (by omega), cond_false, if_neg (by omega), gI, gI, gI]
    by_cases h3 : 60000 < d.safe.length + d.wait.length + (recText r).1.length + 1
    · rw [dT (by omega), cond_true, if_pos h3]; rfl
    · rw [dF (by omega), cond_false, if_neg h3, grd_t (by simp; omega), grd_t (by simp; omega), bcat _ _ (by simp; omega), bnd, List.append_assoc]
  · rw [dT h2, cond_true, if_pos h2]; rfl
def syncT (d : Disk) : Disk × Int := if dCheck ⟨d.safe ++ d.wait, []⟩ ≠ 0 then (zD, dCheck ⟨d.safe ++ d.wait, []⟩) else (⟨d.safe ++ d.wait, []⟩, 0)
def dSync (d : Disk) : Disk × Int := if dCheck d ≠ 0 then (zD, dCheck d) else syncT d
theorem sync_eq (N : Nat) (hN : 60002 ≤ N) (d : Disk) (hw : d.wait.length ≤ 9223372036854775807) : disk_Sync N d = some (dSync d) := by
  unfold disk_Sync dSync syncT
  rw [check_eq N hN d hw, bnd]
  by_cases h : dCheck d = 0
  · obtain ⟨h1, _⟩ := check_ok h
    rw [dF (by omega), cond_false, if_neg (by omega), bcat _ _ (by omega), bnd, check_eq N hN _ (by simp), bnd]
    by_cases h2 : dCheck ⟨d.safe ++ d.wait, []⟩ = 0
    · rw [dF (by omega), cond_false, if_neg (by omega)]
    · rw [dT h2, cond_true, if_pos h2]; rfl
  · rw [dT h, cond_true, if_pos h]; rfl
theorem synced_eq (d : Disk) (h : dCheck d = 0) : wandererref_Synced d = some (syncT d) := by
  obtain ⟨h1, _⟩ := check_ok h
  unfold wandererref_Synced syncT
  rw [bcat _ _ (by omega), bnd, check_eq2 _ (by simp), bnd]
  by_cases h2 : dCheck ⟨d.safe ++ d.wait, []⟩ = 0
  · rw [dF (by omega), cond_false, if_neg (by omega)]
  · rw [dT h2, cond_true, if_pos h2]; rfl
def dCrash (d : Disk) (n : Int) : Disk × Int := if dCheck d ≠ 0 then (zD, dCheck d) else if n < 0 ∨ (d.wait.length : Int) < n then (zD, 3) else (⟨d.safe, d.wait.take n.toNat⟩, 0)
theorem crash_eq (N : Nat) (hN : 60002 ≤ N) (d : Disk) (n : Int) (hw : d.wait.length ≤ 9223372036854775807) : disk_Crash N d n = some (dCrash d n) := by
  unfold disk_Crash dCrash
  rw [check_eq N hN d hw, bnd]
  by_cases h : dCheck d = 0
  · obtain ⟨h1, _⟩ := check_ok h
    rw [dF (by omega), cond_false, if_neg (by omega)]
    by_cases h2 : n < 0 ∨ (d.wait.length : Int) < n
    · rw [show (decide (n < 0) || decide ((d.wait.length : Int) < n)) = true by simpa using h2, cond_true, if_pos h2]; rfl
    · rw [show (decide (n < 0) || decide ((d.wait.length : Int) < n)) = false by simp; omega, cond_false, if_neg h2]
      obtain ⟨m, rfl⟩ := Int.eq_ofNat_of_zero_le (show 0 ≤ n by omega)
      rw [show (0 : Int) = ((0 : Nat) : Int) from rfl, sub_s (by omega) (by omega), bnd, clone_s (by omega) (by omega), bnd, clone_s (by simp; omega) (by simp; omega), bnd, List.drop_zero, Int.toNat_natCast]
  · rw [dT h, cond_true, if_pos h]; rfl
def recT (d : Disk) : Disk × List Rec :=
  (⟨d.safe ++ d.wait.take (ln (120 - ((ln 120 d.safe).1.length : Int)) d.wait).2.1.toNat, []⟩, (ln 120 d.safe).1 ++ (ln (120 - ((ln 120 d.safe).1.length : Int)) d.wait).1)
def dRecover (d : Disk) : Disk × List Rec × Int := if dCheck d ≠ 0 then (zD, [], dCheck d) else ((recT d).1, (recT d).2, 0)
theorem ln_len (most : Int) (s : Str) : 0 ≤ (ln most s).2.1 ∧ (ln most s).2.1 ≤ s.length ∧ (ln most s).1.length ≤ s.length + 1 ∧ (0 ≤ most → ((ln most s).1.length : Int) ≤ most) := by
  have h := lnP_len most (splitC 10 s) [] 0 (Int.le_refl 0)
  have h2 := splitC_len 10 s
  rw [join_splitC] at h
  unfold ln
  simp only [List.length_nil] at h
  omega
theorem recover_eq (N : Nat) (hN : 60002 ≤ N) (d : Disk) (hw : d.wait.length ≤ 9223372036854775807) : disk_Recover N d = some (dRecover d) := by
  unfold disk_Recover dRecover recT
  rw [check_eq N hN d hw, bnd]
  by_cases h : dCheck d = 0
  · obtain ⟨h1, _⟩ := check_ok h
    have k1 := ln_len 120 d.safe
    rw [dF (by omega), cond_false, if_neg (by omega), lines_eq N d.safe 120 hN (by omega) (by omega), bnd, gI, lines_eq N d.wait _ hN (by omega) (by omega), bnd]
    have k2 := ln_len (120 - ((ln 120 d.safe).1.length : Int)) d.wait
    generalize ln (120 - ((ln 120 d.safe).1.length : Int)) d.wait = y at *
    obtain ⟨y1, y2, y3⟩ := y
    simp only at k2 ⊢
    obtain ⟨m, rfl⟩ := Int.eq_ofNat_of_zero_le k2.1
    rw [show (0 : Int) = ((0 : Nat) : Int) from rfl, sub_s (by omega) (by omega), bnd, List.drop_zero, bcat _ _ (by simp; omega), bnd, grd_t ⟨by omega, by omega⟩, Int.toNat_natCast]
  · rw [dT h, cond_true, if_pos h]; rfl
theorem recovered_eq (d : Disk) (h : dCheck d = 0) : wandererref_Recovered d = some (recT d) := by
  obtain ⟨h1, _⟩ := check_ok h
  unfold wandererref_Recovered recT
  have k1 := ln_len 120 d.safe
  rw [linesOf_eq d.safe 120 (by omega), bnd, gI, linesOf_eq d.wait _ (by omega), bnd]
  have k2 := ln_len (120 - ((ln 120 d.safe).1.length : Int)) d.wait
  generalize ln (120 - ((ln 120 d.safe).1.length : Int)) d.wait = y at *
  obtain ⟨y1, y2, y3⟩ := y
  simp only at k2 ⊢
  obtain ⟨m, rfl⟩ := Int.eq_ofNat_of_zero_le k2.1
  rw [show (0 : Int) = ((0 : Nat) : Int) from rfl, sub_s (by omega) (by omega), bnd, List.drop_zero, bcat _ _ (by simp; omega), bnd, rcat _ _ (by omega), bnd, Int.toNat_natCast]
end Go.Proofs.YthlibjllfckhjaaDoor

namespace Go.Proofs.YthlibjllfckhjaaDoor
open Go Go.Proofs Go.LX
def lineOf (r : Rec) : Str := joinC 32 ((nl r).map Lib.itoa)
def GoodL (l : List Rec) : Prop := ∀ r ∈ l, record_Check r = 0 ∧ RecW r
def txt : List Rec → Str
  | [] => []
  | r :: l => lineOf r ++ 10 :: txt l
theorem txt_app : ∀ (a b : List Rec), txt (a ++ b) = txt a ++ txt b
  | [], b => rfl
  | r :: a, b => by simp [txt, txt_app a b]
theorem mem_joinC (c : UInt8) : ∀ (l : List Str) (x : UInt8), x ∈ joinC c l → x = c ∨ ∃ w ∈ l, x ∈ w
  | [], x, h => by simp [joinC, Lib.join_nil] at h
  | [y], x, h => by rw [joinC_one] at h; exact .inr ⟨y, by simp, h⟩
  | y :: z :: l, x, h => by
    rw [joinC_cons] at h
    rcases List.mem_append.1 h with h | h
    · exact .inr ⟨y, by simp, h⟩
    · rcases List.mem_cons.1 h with h | h
      · exact .inl h
      · rcases mem_joinC c (z :: l) x h with h | ⟨w, hw, h⟩
        · exact .inl h
        · exact .inr ⟨w, List.mem_cons_of_mem _ hw, h⟩
theorem line_free (r : Rec) : (10 : UInt8) ∉ lineOf r := by
  intro h
  rcases mem_joinC 32 _ _ h with h | ⟨w, hw, h⟩
  · exact absurd h (by decide)
  · obtain ⟨n, _, rfl⟩ := List.mem_map.1 hw
    exact itoa_free (by decide) h
theorem split_txt : ∀ (l : List Rec) (t : Str), splitC 10 (txt l ++ t) = l.map lineOf ++ splitC 10 t
  | [], t => rfl
  | r :: l, t => by
    rw [txt, List.append_assoc, List.cons_append, splitC_app (line_free r), split_txt l t]; rfl
theorem lnP_txt (most : Int) : ∀ (rs : List Rec) (q : List Str) (l : List Rec) (n : Int), GoodL rs → q ≠ [] → ((l.length + rs.length : Nat) : Int) ≤ most → lnP most (rs.map lineOf ++ q) l n = lnP most q (l ++ rs) (n + ((txt rs).length : Int))
  | [], q, l, n, _, _, _ => by simp [txt]
  | r :: rs, q, l, n, h, hq, hl => by
    obtain ⟨h1, h2⟩ := h r (by simp)
    simp only [List.length_cons] at hl
    have hr : recRead (lineOf r) = (r, 0) := read_print h1 h2
    rw [List.map_cons, List.cons_append, lnP_cons (by simp [hq]), hr, if_neg (by simp), if_neg (by omega), lnP_txt most rs q (l ++ [r]) _ (fun x hx => h x (List.mem_cons_of_mem _ hx)) hq (by simp; omega)]
    simp only [txt, List.length_append, List.length_cons, List.append_assoc, List.cons_append, List.nil_append]
    congr 1
    omega
theorem ln_txt {most : Int} {rs : List Rec} (t : Str) (h : GoodL rs) (hl : (rs.length : Int) ≤ most) : ln most (txt rs ++ t) = lnP most (splitC 10 t) rs ((txt rs).length : Int) := by
  unfold ln
  rw [split_txt, lnP_txt most rs _ [] 0 h (splitC_ne 10 t) (by simpa using hl)]
  simp
theorem ln_all {most : Int} {rs : List Rec} (h : GoodL rs) (hl : (rs.length : Int) ≤ most) : ln most (txt rs) = (rs, ((txt rs).length : Int), 0) := by
  have := ln_txt (most := most) [] h hl
  rw [List.append_nil] at this
  rw [this]; simp [splitC, lnP]
theorem ln_torn {most : Int} {rs : List Rec} {t : Str} (h : GoodL rs) (hl : (rs.length : Int) ≤ most) (ht : (10 : UInt8) ∉ t) : (ln most (txt rs ++ t)).1 = rs ∧ (ln most (txt rs ++ t)).2.1 = ((txt rs).length : Int) := by
  rw [ln_txt t h hl, splitC_free ht]
  unfold lnP
  split <;> simp
theorem check_txt {a : List Rec} {w : Str} (h : GoodL a) (hl : a.length ≤ 120) (hw : (txt a).length + w.length ≤ 60000) : dCheck ⟨txt a, w⟩ = 0 := by
  unfold dCheck
  show (if 60000 < (txt a).length ∨ 60000 < (txt a).length + w.length then (2 : Int) else (ln 120 (txt a)).2.2) = 0
  rw [if_neg (by omega), ln_all h (by omega)]
theorem put_txt {a b : List Rec} {r : Rec} (ha : GoodL a) (hl : a.length ≤ 120) (hw : (txt a).length + (txt b).length ≤ 60000) (w : RecW r) :
    (dPut ⟨txt a, txt b⟩ r).2 ≠ 0 ∨ (dPut ⟨txt a, txt b⟩ r = (⟨txt a, txt (b ++ [r])⟩, 0) ∧ record_Check r = 0 ∧ (txt a).length + (txt (b ++ [r])).length ≤ 60000) := by
  unfold dPut putT
  rw [if_neg (by rw [check_txt ha hl hw]; simp)]
  by_cases h : record_Check r = 0
  · have e : recText r = (lineOf r, 0) := text_ok h
    rw [e]
    simp only [ne_eq, not_true_eq_false, if_false]
    by_cases h2 : 60000 < (txt a).length + (txt b).length + (lineOf r).length + 1
    · rw [if_pos h2]; left; simp
    · rw [if_neg h2]
      right
      have e2 : txt (b ++ [r]) = txt b ++ lineOf r ++ [10] := by rw [txt_app]; simp [txt]
      refine ⟨by rw [e2], h, by rw [e2]; simp; omega⟩
  · have e : recText r = ([], record_Check r) := by unfold recText; rw [if_neg h]
    rw [e, if_pos h]
    exact .inl h
theorem sync_txt {a b : List Rec} (ha : GoodL a) (hb : GoodL b) (hl : a.length + b.length ≤ 120) (hw : (txt a).length + (txt b).length ≤ 60000) : dSync ⟨txt a, txt b⟩ = (⟨txt (a ++ b), []⟩, 0) := by
  have hg : GoodL (a ++ b) := fun r hr => (List.mem_append.1 hr).elim (ha r) (hb r)
  unfold dSync syncT
  rw [if_neg (by rw [check_txt ha (by omega) hw]; simp)]
  show (if dCheck ⟨txt a ++ txt b, []⟩ ≠ 0 then _ else _) = _
  rw [← txt_app, if_neg (by rw [check_txt hg (by simpa using hl) (by rw [txt_app]; simp; omega)]; simp)]
theorem recover_txt {a b : List Rec} {t : Str} (ha : GoodL a) (hb : GoodL b) (hl : a.length + b.length ≤ 120) (ht : (10 : UInt8) ∉ t) (hw : (txt a).length + (txt b ++ t).length ≤ 60000) : dRecover ⟨txt a, txt b ++ t⟩ = (⟨txt (a ++ b), []⟩, a ++ b, 0) := by
  unfold dRecover recT
  rw [if_neg (by rw [check_txt ha (by omega) hw]; simp)]
  have e1 := ln_all (most := 120) ha (by omega)
  simp only [e1]
  have e2 := ln_torn (most := 120 - (a.length : Int)) hb (by omega) ht
  rw [e2.1, e2.2, Int.toNat_natCast, List.take_left, txt_app]
theorem take_txt : ∀ (b : List Rec) (m : Nat), ∃ k t, (txt b).take m = txt (b.take k) ++ t ∧ (10 : UInt8) ∉ t
  | [], m => ⟨0, [], by simp [txt], by simp⟩
  | r :: b, m => by
    by_cases h : m ≤ (lineOf r).length
    · refine ⟨0, (lineOf r).take m, ?_, fun hm => line_free r (List.mem_of_mem_take hm)⟩
      simp only [List.take_zero, txt, List.nil_append]
      rw [List.take_append_of_le_length h]
    · obtain ⟨k, t, h1, h2⟩ := take_txt b (m - (lineOf r).length - 1)
      refine ⟨k + 1, t, ?_, h2⟩
      rw [List.take_succ_cons, txt, txt, List.take_append, List.take_of_length_le (by omega), List.append_assoc, List.cons_append, ← h1]
      congr 1
      rw [show m - (lineOf r).length = (m - (lineOf r).length - 1) + 1 by omega, List.take_succ_cons]
      simp
theorem zD_txt : zD = ⟨txt [], txt []⟩ := rfl
theorem good_nil : GoodL [] := fun r h => by cases h
/-! ### filed -/
def rA : Rec := ⟨5, 0, 1, 0, [], []⟩
def rB : Rec := ⟨3, 0, 1, 2, [], []⟩
theorem rA_ok : record_Check rA = 0 ∧ RecW rA := ⟨by decide, by decide, by decide, by decide, by decide, by simp [rA], by simp [rA]⟩
theorem rB_ok : record_Check rB = 0 ∧ RecW rB := ⟨by decide, by decide, by decide, by decide, by decide, by simp [rB], by simp [rB]⟩
theorem line_len {r : Rec} (h : record_Check r = 0) (w : RecW r) : (lineOf r).length ≤ 27390 := by
  have := text_len w
  rw [text_ok h] at this
  exact this
theorem put_ok {a b : List Rec} {r : Rec} (ha : GoodL a) (hl : a.length ≤ 120) (hw : (txt a).length + (txt b).length + 27391 ≤ 60000) (h : record_Check r = 0) (w : RecW r) : dPut ⟨txt a, txt b⟩ r = (⟨txt a, txt (b ++ [r])⟩, 0) := by
  have hr := line_len h w
  unfold dPut putT
  rw [if_neg (by rw [check_txt ha hl (by omega)]; simp)]
  have e : recText r = (lineOf r, 0) := text_ok h
  rw [e]
  simp only [ne_eq, not_true_eq_false, if_false]
  have e2 : txt (b ++ [r]) = txt b ++ lineOf r ++ [10] := by rw [txt_app]; simp [txt]
  rw [if_neg (by omega), e2]
theorem lineA : lineOf rA = [53, 32, 48, 32, 49, 32, 48, 32, 48] := by
  have h5 := itoa_small (k := 5) (by decide)
  have h1 := itoa_small (k := 1) (by decide)
  have h0 := itoa_small (k := 0) (by decide)
  show joinC 32 [Lib.itoa ((5 : Nat) : Int), Lib.itoa ((0 : Nat) : Int), Lib.itoa ((1 : Nat) : Int), Lib.itoa ((0 : Nat) : Int), Lib.itoa ((0 : Nat) : Int)] = _
  rw [h5, h1, h0]
  decide
theorem lineB : lineOf rB = [51, 32, 48, 32, 49, 32, 50, 32, 48] := by
  have h3 := itoa_small (k := 3) (by decide)
  have h2 := itoa_small (k := 2) (by decide)
  have h1 := itoa_small (k := 1) (by decide)
  have h0 := itoa_small (k := 0) (by decide)
  show joinC 32 [Lib.itoa ((3 : Nat) : Int), Lib.itoa ((0 : Nat) : Int), Lib.itoa ((1 : Nat) : Int), Lib.itoa ((2 : Nat) : Int), Lib.itoa ((0 : Nat) : Int)] = _
  rw [h3, h1, h0, h2]
  decide
theorem filed_ok (N : Nat) (hN : 60002 ≤ N) : wandererlaw_filed N = some true := by
  have gA : GoodL [rA] := fun r h => by simp at h; subst h; exact rA_ok
  have gB : GoodL [rB] := fun r h => by simp at h; subst h; exact rB_ok
  have tA : txt [rA] = [53, 32, 48, 32, 49, 32, 48, 32, 48, 10] := by simp [txt, lineA]
  have tB : txt [rB] = [51, 32, 48, 32, 49, 32, 50, 32, 48, 10] := by simp [txt, lineB]
  unfold wandererlaw_filed
  show (disk_Put N ⟨txt [], txt []⟩ rA).bind _ = _
  rw [put_eq N hN _ _ (by simp [txt]) rA_ok.2, bnd, put_ok good_nil (by simp) (by simp [txt]) rA_ok.1 rA_ok.2, sync_eq N hN _ (by simp [tA]), bnd, List.nil_append, sync_txt good_nil gA (by simp) (by rw [tA]; simp [txt])]
  show (disk_Put N ⟨txt [rA], txt []⟩ rB).bind _ = _
  rw [put_eq N hN _ _ (by simp [txt]) rB_ok.2, bnd, put_ok gA (by simp) (by rw [tA]; simp [txt]) rB_ok.1 rB_ok.2, crash_eq N hN _ _ (by simp [tB]), bnd, List.nil_append]
  have hc : dCrash ⟨txt [rA], txt [rB]⟩ 4 = (⟨txt [rA], txt [] ++ [51, 32, 48, 32]⟩, 0) := by
    unfold dCrash
    rw [if_neg (by rw [check_txt gA (by simp) (by rw [tA, tB]; simp)]; simp)]
    simp only [tB]
    rfl
  rw [hc, recover_eq N hN _ (by simp [txt]), bnd, recover_txt gA good_nil (by simp) (by decide) (by rw [tA]; simp [txt]), List.append_nil, tA]
  rfl
theorem upto_all2k {α β ρ : Type} {body : Int → Unit → (Unit → ρ) → ρ} {kk : Unit → ρ} {bad : ρ} (p : α → β → Bool) (a : List α) (b : List β) (hl : a.length = b.length)
    (hb : ∀ (i : Nat) x y nx, a[i]? = some x → b[i]? = some y → body (i : Int) () nx = bif p x y then nx () else bad) : upto body kk 0 a.length () = bif all2 p a b then kk () else bad := by
  have key : ∀ (m i : Nat), i + m = a.length → upto body kk (i : Int) m () = bif all2 p (a.drop i) (b.drop i) then kk () else bad := by
    intro m
    induction m with
    | zero =>
      intro i h
      rw [List.drop_eq_nil_of_le (by omega), List.drop_eq_nil_of_le (by omega)]
      rfl
    | succ m ih =>
      intro i h
      have h1 : i < a.length := by omega
      have h2 : i < b.length := by omega
      rw [List.drop_eq_getElem_cons h1, List.drop_eq_getElem_cons h2]
      show body (i : Int) () (upto body kk ((i : Int) + 1) m) = _
      rw [hb i a[i] b[i] _ (List.getElem?_eq_getElem h1) (List.getElem?_eq_getElem h2)]
      cases hp : p a[i] b[i] with
      | true => simp only [cond_true, all2, hp, Bool.true_and]; exact ih (i + 1) (by omega)
      | false => simp [all2, hp]
  simpa using key a.length 0 (by omega)
theorem diskSays (d : Disk) (r : Rec) (n : Int) (x : Disk) (w : RecW r) (hw : d.wait.length ≤ 9223372036854775807) : ∃ N, wandererlaw_DiskSays N d r n x = some true := by
  refine ⟨60002, ?_⟩
  have hN := Nat.le_refl 60002
  unfold wandererlaw_DiskSays
  rw [put_eq _ hN _ _ hw w, bnd, sync_eq _ hN _ hw, bnd, crash_eq _ hN _ _ hw, bnd, recover_eq _ hN _ hw, bnd, check_eq2 _ hw, bnd, filed_ok _ hN, bnd, check_eq _ hN _ hw, bnd, diskSame, bnd, diskSame2, bnd]
  simp only [Bool.not_true, cond_false, ne_eq, not_true_eq_false, decide_false, bne_self_eq_false]
  unfold wandererlaw_DiskSays_j2
  rw [cond_false]
  by_cases h : dCheck d = 0
  · rw [dF (by omega), cond_false, putOn_eq d r h w, bnd, synced_eq d h, bnd, recovered_eq d h, bnd]
    have e1 : dPut d r = putT d r := by unfold dPut; rw [if_neg (by omega)]
    have e2 : dSync d = syncT d := by unfold dSync; rw [if_neg (by omega)]
    have e3 : dRecover d = ((recT d).1, (recT d).2, 0) := by unfold dRecover; rw [if_neg (by omega)]
    rw [e1, e2, e3]
    simp only [ne_eq, not_true_eq_false, decide_false, cond_false]
    rw [diskSame2, bnd, diskSame2, bnd, diskSame2, bnd]
    simp only [decide_true, Bool.not_true, Bool.false_or, decide_false, cond_false]
    have hend : wandererlaw_DiskSays_j16 n d (dCrash d n) false = some true := by
      obtain ⟨h1, _⟩ := check_ok h
      unfold wandererlaw_DiskSays_j16 dCrash
      rw [cond_false, if_neg (by omega)]
      by_cases h2 : n < 0 ∨ (d.wait.length : Int) < n
      · rw [show (decide (n < 0) || decide ((d.wait.length : Int) < n)) = true by simpa using h2, cond_true, if_pos h2, dT rfl, cond_true]
        show (wandererref_SameDisk zD zD).bind _ = _
        rw [diskSame2, bnd, dT rfl]
      · rw [show (decide (n < 0) || decide ((d.wait.length : Int) < n)) = false by simp; omega, cond_false, if_neg h2, dT rfl, cond_true]
        obtain ⟨m, rfl⟩ := Int.eq_ofNat_of_zero_le (show 0 ≤ n by omega)
        rw [show (0 : Int) = ((0 : Nat) : Int) from rfl, sub_s (by omega) (by omega), bnd, List.drop_zero, diskSame2, bnd, Int.toNat_natCast, dT rfl]
    rw [Int.toNat_natCast]
    refine (upto_all2k (bad := wandererlaw_DiskSays_j16 n d (dCrash d n) true) (fun a b => decide (a = b)) (recT d).2 (recT d).2 rfl (fun i a b nx h1 h2 => ?_)).trans ?_
    · unfold wandererlaw_DiskSays_b19
      simp only
      have hab : a = b := by rw [h1] at h2; exact Option.some.inj h2
      subst hab
      rw [idx_nat, h1, bnd, bnd, same_eq2, bnd]
      simp
    · rw [all2_eq (fun _ _ => rfl), dT rfl, cond_true]
      exact hend
  · rw [dT h, cond_true]
    have e1 : dPut d r = (zD, dCheck d) := by unfold dPut; rw [if_pos h]
    have e2 : dSync d = (zD, dCheck d) := by unfold dSync; rw [if_pos h]
    have e3 : dRecover d = (zD, [], dCheck d) := by unfold dRecover; rw [if_pos h]
    have e4 : dCrash d n = (zD, dCheck d) := by unfold dCrash; rw [if_pos h]
    rw [e1, e2, e3, e4]
    simp only [decide_true, Bool.and_self, List.length_nil, Int.natCast_zero, cond_true]
    have hz : wandererref_SameDisk zD ⟨[], []⟩ = some true := by rw [diskSame2]; rfl
    simp [hz]
end Go.Proofs.YthlibjllfckhjaaDoor

namespace Go.Proofs.YthlibjllfckhjaaDoor
open Go Go.Proofs Go.LX
theorem put_loop {ρ : Type} (N : Nat) (hN : 60002 ≤ N) {body : Rec → List Rec × Str × Str → (List Rec × Str × Str → Option ρ) → Option ρ} {kk : List Rec × Str × Str → Option ρ}
    (hb : ∀ x o s w nx, body x (o, s, w) nx = (disk_Put N ⟨s, w⟩ x).bind fun y => bif decide (y.2 = 0) then grd (Room 80 o [x]) (nx (o ++ [x], y.1.safe, y.1.wait)) else nx (o, s, w))
    (a : List Rec) (ha : GoodL a) (hl : a.length ≤ 120) : ∀ (l o : List Rec), (∀ x ∈ l, RecW x) → GoodL o → o.length + l.length ≤ 1000 → (txt a).length + (txt o).length ≤ 60000 →
    ∃ o', each body kk l (o, txt a, txt o) = kk (o', txt a, txt o') ∧ GoodL o' ∧ o'.length ≤ o.length + l.length ∧ (txt a).length + (txt o').length ≤ 60000
  | [], o, _, ho, _, hw => ⟨o, rfl, ho, by simp, hw⟩
  | x :: l, o, hx, ho, hlen, hw => by
    have wx := hx x (by simp)
    simp only [List.length_cons] at hlen
    rw [each_cons, hb, put_eq N hN _ _ (show (txt o).length ≤ _ by omega) wx, bnd]
    rcases put_txt ha hl hw wx with h | ⟨h1, h2, h3⟩
    · rw [dF h, cond_false]
      obtain ⟨o', k1, k2, k3, k4⟩ := put_loop N hN hb a ha hl l o (fun y hy => hx y (List.mem_cons_of_mem _ hy)) ho (by omega) hw
      exact ⟨o', k1, k2, by simp; omega, k4⟩
    · rw [h1, dT rfl, cond_true, grd_t ⟨by simp; omega, by simp; omega⟩]
      have hg : GoodL (o ++ [x]) := fun r hr => by
        rcases List.mem_append.1 hr with hr | hr
        · exact ho r hr
        · simp at hr; subst hr; exact ⟨h2, wx⟩
      obtain ⟨o', k1, k2, k3, k4⟩ := put_loop N hN hb a ha hl l (o ++ [x]) (fun y hy => hx y (List.mem_cons_of_mem _ hy)) hg (by simp; omega) h3
      exact ⟨o', k1, k2, by simp at k3 ⊢; omega, k4⟩
theorem at_eq (c : Int) (m : Nat) (hm : m ≤ 60000) : ∃ k : Nat, wandererlaw_at c ((m : Int) + 1) = some (k : Int) ∧ k ≤ m := by
  unfold wandererlaw_at
  rw [grd_t (by omega)]
  have h1 := Int.tmod_lt_of_pos c (show (0 : Int) < (m : Int) + 1 by omega)
  have h2 : -((m : Int) + 1) < Int.tmod c ((m : Int) + 1) := Int.lt_tmod_of_pos c (by omega)
  by_cases h : Int.tmod c ((m : Int) + 1) < 0
  · rw [dT h, cond_true, gI]
    exact ⟨(Int.tmod c ((m : Int) + 1) + ((m : Int) + 1)).toNat, by rw [Int.toNat_of_nonneg (by omega)], by omega⟩
  · rw [dF h, cond_false]
    exact ⟨(Int.tmod c ((m : Int) + 1)).toNat, by rw [Int.toNat_of_nonneg (by omega)], by omega⟩
theorem diskKeeps (a b : List Rec) (c : Int) (ha : ∀ x ∈ a, RecW x) (hb : ∀ x ∈ b, RecW x) (hla : a.length ≤ 9223372036854775807) (hlb : b.length ≤ 9223372036854775807) : ∃ N, wandererlaw_DiskKeeps N a b c = some true := by
  refine ⟨60002, ?_⟩
  have hN := Nat.le_refl 60002
  unfold wandererlaw_DiskKeeps
  rw [filed_ok _ hN, bnd]
  simp only [Bool.not_true, cond_false]
  have hm : ∀ (l : List Rec), min (l.length : Int) 5 = ((min l.length 5 : Nat) : Int) := fun l => by omega
  rw [hm, show (0 : Int) = ((0 : Nat) : Int) from rfl, sub_s (by omega) (by omega), bnd, List.drop_zero]
  obtain ⟨oa, k1, k2, k3, k4⟩ := put_loop 60002 hN (body := wandererlaw_DiskKeeps_b66 60002) (kk := wandererlaw_DiskKeeps_k67 60002 b c) (fun x o s w nx => rfl) [] good_nil (by simp) (a.take (min a.length 5)) [] (fun x hx => ha x (List.mem_of_mem_take hx)) good_nil (by simp; omega) (by simp [txt])
  have k3' : oa.length ≤ 5 := by simp at k3; omega
  simp only [txt] at k1 k4
  rw [k1]
  unfold wandererlaw_DiskKeeps_k67
  show (disk_Sync 60002 ⟨txt [], txt oa⟩).bind _ = _
  simp only [List.length_nil, Nat.zero_add] at k4
  rw [sync_eq _ hN _ (show (txt oa).length ≤ _ by omega), bnd, sync_txt good_nil k2 (by simp; omega) (by simp [txt]; omega)]
  simp only [ne_eq, not_true_eq_false, decide_false, cond_false, List.nil_append]
  rw [hm, show (0 : Int) = ((0 : Nat) : Int) from rfl, sub_s (by omega) (by omega), bnd, List.drop_zero]
  obtain ⟨ob, j1, j2, j3, j4⟩ := put_loop 60002 hN (body := wandererlaw_DiskKeeps_b64 60002) (kk := wandererlaw_DiskKeeps_k65 60002 c oa) (fun x o s w nx => rfl) oa k2 (by omega) (b.take (min b.length 5)) [] (fun x hx => hb x (List.mem_of_mem_take hx)) good_nil (by simp; omega) (by simp [txt]; omega)
  have j3' : ob.length ≤ 5 := by simp at j3; omega
  simp only [txt] at j1
  rw [j1]
  unfold wandererlaw_DiskKeeps_k65
  simp only
  obtain ⟨m, m1, m2⟩ := at_eq c (txt ob).length (by omega)
  rw [gI, m1, bnd, crash_eq _ hN _ _ (show (txt ob).length ≤ _ by omega), bnd]
  obtain ⟨k, t, t1, t2⟩ := take_txt ob m
  have hc : dCrash ⟨txt oa, txt ob⟩ (m : Int) = (⟨txt oa, txt (ob.take k) ++ t⟩, 0) := by
    unfold dCrash
    rw [if_neg (by rw [check_txt k2 (by omega) j4]; simp), if_neg (by simp only; omega), Int.toNat_natCast]
    simp only [t1]
  have hlen : (txt (ob.take k) ++ t).length ≤ (txt ob).length := by rw [← t1, List.length_take]; omega
  have gk : GoodL (ob.take k) := fun r hr => j2 r (List.mem_of_mem_take hr)
  have lk : (ob.take k).length ≤ ob.length := by rw [List.length_take]; omega
  rw [hc]
  unfold wandererlaw_DiskKeeps_j37
  simp only [ne_eq, not_true_eq_false, decide_false, cond_false]
  rw [recover_eq _ hN _ (show (txt (ob.take k) ++ t).length ≤ _ by omega), bnd, recover_txt k2 gk (by omega) t2 (by omega)]
  simp only [ne_eq, not_true_eq_false, decide_false, Bool.false_or]
  have la : (oa ++ ob.take k).length = oa.length + (ob.take k).length := List.length_append
  rw [dF (by omega), cond_false, gI, dF (by omega), cond_false, rcat _ _ (by omega), bnd]
  rw [show (0 : Int) = ((0 : Nat) : Int) from rfl, sub_s (by omega) (by rw [la, List.length_append]; omega), bnd, List.drop_zero]
  have he : (oa ++ ob).take (oa ++ ob.take k).length = oa ++ ob.take k := by
    rw [la, List.take_length_add_append, List.length_take, ← List.take_eq_take_min]
  rw [he]
  simp only [ne_eq, not_true_eq_false, decide_false, cond_false, Int.toNat_natCast]
  refine (upto_all2k (bad := some false) (fun a b => decide (a = b)) (oa ++ ob.take k) (oa ++ ob.take k) rfl (fun i x y nx h1 h2 => ?_)).trans ?_
  · unfold wandererlaw_DiskKeeps_b62
    have hab : x = y := by rw [h1] at h2; exact Option.some.inj h2
    subst hab
    simp only
    rw [idx_nat, h1, bnd, bnd, same_eq, bnd]
    simp
  · rw [all2_eq (fun _ _ => rfl), dT rfl, cond_true]
    unfold wandererlaw_DiskKeeps_k63 wandererlaw_DiskKeeps_j51
    rw [cond_false]
    have ga : GoodL (oa ++ ob.take k) := fun r hr => (List.mem_append.1 hr).elim (k2 r) (gk r)
    have e0 : ({ safe := txt (oa ++ ob.take k), wait := [] } : Disk) = ⟨txt (oa ++ ob.take k), txt [] ++ []⟩ := rfl
    simp only
    rw [recover_eq _ hN _ (by simp), bnd, e0, recover_txt ga good_nil (by simp; omega) (by simp) (by simp [txt, txt_app] at hlen ⊢; omega), List.append_nil]
    simp only [decide_true, cond_true]
    rw [diskSame, bnd]
    have e1 : decide ((⟨txt (oa ++ ob.take k), []⟩ : Disk) = ⟨txt (oa ++ ob.take k), txt [] ++ []⟩) = true := by simp [txt]
    rw [e1, cond_true]
    simp only [ne_eq, not_true_eq_false, decide_false, cond_false, Int.toNat_natCast]
    refine (upto_all2k (bad := some false) (fun a b => decide (a = b)) (oa ++ ob.take k) (oa ++ ob.take k) rfl (fun i x y nx h1 h2 => ?_)).trans ?_
    · unfold wandererlaw_DiskKeeps_b58
      have hab : x = y := by rw [h1] at h2; exact Option.some.inj h2
      subst hab
      simp only
      rw [idx_nat, h1, bnd, bnd, same_eq, bnd]
      simp
    · rw [all2_eq (fun _ _ => rfl), dT rfl, cond_true]
      unfold wandererlaw_DiskKeeps_k59
      simp [txt]
end Go.Proofs.YthlibjllfckhjaaDoor
