/-
  Our own library, the third part: texts, and what the library reads.
-/
import Derived.Test.YtckocfgmnlhcmaaGreatDoorLiftB
import Derived.Laws.OwnMore
import Derived.Laws.Concat
import Derived.Laws.Strings2
import Derived.Laws.Strings3
import Derived.Laws.IdiomStrings
import Derived.Lib.AppendStr
import Derived.Lib.AppendZeros
import Derived.Lib.ConvBytes
import Derived.Lib.LaidTab
import Derived.Lib.ItoaNum
import Derived.WideLaws
import Derived.Lib.SplitLaws
import Derived.Lib.JoinLaws
import Derived.Lib.AtoiAll
import Derived.Lib.ParseIntB
import Derived.Laws.NewFold
import Derived.Lib.Join
import Derived.Lib.Strings
import Derived.Sort.Grow
import Derived.Lib.Space
import Derived.Handed
import Derived.LaidMore
import Derived.LaidHandle
import Derived.Stop.LaidErr
import Derived.Shelf.Vars
import Derived.WideShapes
import Derived.Lib.ParseIntBTie
import Derived.Lib.ItoaLen
import Derived.Lib.AtoiAllCases
set_option linter.unusedSimpArgs false
set_option linter.unusedVariables false
namespace Go.LX
open Go.RowKit
/-- A byte in one cell. -/
def rByte : Rep UInt8 where
  sz := 1
  rd _ _ cs x := cs = [.int .u8 (x.toNat : Int)]
  len := by rintro w A cs x rfl; rfl
  one := by rintro w A cs x rfl u hu; simp at hu; subst hu; rfl
  pos := by decide
  go := fun h _ _ _ => h
/-- An interface value: nil, or not. -/
def IsErr (v : Value) (b : Bool) : Prop := (b = false ∧ v = .nilIface) ∨ (b = true ∧ ∃ t p, v = .iface t p)
theorem IsErr.one {v : Value} {b : Bool} (h : IsErr v b) : v.oneCell' = true := by
  rcases h with ⟨_, rfl⟩ | ⟨_, t, p, rfl⟩ <;> rfl
structure IfaceT (P : Program) (T : TypeId) : Prop where
  desc : P.underlying T = some (.interface (P.methodsAt T))
def mk? {α : Type} (bytes : Nat) (k : Int) (a : α) : Option (List α) := grd (0 ≤ k ∧ k * bytes ≤ 140737488355328) (some (List.replicate k.toNat a))
def growN {α : Type} (bytes : Nat) (k : Int) : Option (List α) := grd (0 ≤ k ∧ k * bytes ≤ 140737488355328) (some [])
section
variable {P : Program} {ops : Array Oper} {Q : Exit → Act → World → Prop} {n : Nat} {env : Nat → Value} {w w' w0 : World} {M K : BS} {hp : Nat → Chunk} {rest : List Oper}
  {d : Option Nat} {op : Op} {ty : TypeId} {pos : String} {af : Array Edge} {v : Value} {g : Option (Nat × Bool)} {T : TypeId} {ρ : Operand → Value} {x y : Operand}
theorem r_eqls {a b : Str} {T2 : TypeId} (hx : ρ x = strV a) (hy : ρ y = strV b) : (execOp ρ ⟨d, .binOp .eql T x y T2, ty, pos, af, g⟩).run P w = .ok (.value (.bool (decide (a = b)))) w := by
  simp [execOp, binOp, hx, hy, strV, Op.stringOp, eqGuard]; rw [Bool.eq_iff_iff]; simp
theorem r_neqs {a b : Str} {T2 : TypeId} (hx : ρ x = strV a) (hy : ρ y = strV b) : (execOp ρ ⟨d, .binOp .neq T x y T2, ty, pos, af, g⟩).run P w = .ok (.value (.bool (decide (a ≠ b)))) w := by
  simp [execOp, binOp, hx, hy, strV, Op.stringOp, eqGuard]; rw [Bool.eq_iff_iff]; simp
theorem r_adds {a b : Str} {T2 : TypeId} (hx : ρ x = strV a) (hy : ρ y = strV b) (h : a.length + b.length ≤ 9223372036854775807) : (execOp ρ ⟨d, .binOp .add T x y T2, ty, pos, af, g⟩).run P w = .ok (.value (strV (a ++ b))) w := by
  have h2 := run_string_add_sum (P := P) (w := w) ⟨a.toArray⟩ ⟨b.toArray⟩ (by simpa [ByteArray.size] using h)
  have h3 : (⟨a.toArray⟩ ++ ⟨b.toArray⟩ : ByteArray) = ⟨(a ++ b).toArray⟩ := by
    apply ByteArray.ext; simp
  rw [h3] at h2
  simp [execOp, binOp, hx, hy, strV, eqGuard, h2]
theorem r_neqnilI {b : Bool} {T2 : TypeId} (hT : IfaceT P T) (hx : ρ x = v) (hv : IsErr v b) (hy : ρ (.const .nilIface) = .nilIface) : (execOp ρ ⟨d, .binOp .neq T x (.const .nilIface) T2, ty, pos, af, g⟩).run P w = .ok (.value (.bool b)) w := by
  rcases hv with ⟨rfl, rfl⟩ | ⟨rfl, t, p, rfl⟩
  · simp [execOp, binOp, hx, hy, eqGuard, run_equal_nil_nil w T hT.desc]
  · simp [execOp, binOp, hx, hy, eqGuard, run_equal_held_nil w T t p hT.desc]
theorem r_eqlnilI {b : Bool} {T2 : TypeId} (hT : IfaceT P T) (hx : ρ x = v) (hv : IsErr v b) (hy : ρ (.const .nilIface) = .nilIface) : (execOp ρ ⟨d, .binOp .eql T x (.const .nilIface) T2, ty, pos, af, g⟩).run P w = .ok (.value (.bool !b)) w := by
  rcases hv with ⟨rfl, rfl⟩ | ⟨rfl, t, p, rfl⟩
  · simp [execOp, binOp, hx, hy, eqGuard, run_equal_nil_nil w T hT.desc]
  · simp [execOp, binOp, hx, hy, eqGuard, run_equal_held_nil w T t p hT.desc]
theorem w_makeSl {α : Type} {R : Rep α} {E : TypeId} {bytes : Nat} {k : Int} {z : Value} {a : α} (h : SH w0 M K w hp) (i : Nat) (hT : ElemOf P T E 1 bytes) (hz : One P E z) (hs : R.sz = 1) (hb : 0 < bytes) (hx : ev n env x = .int .i64 k) (hy : ev n env y = .int .i64 k)
    (hk : 0 ≤ k ∧ k * bytes ≤ 140737488355328) (ha : ∀ w A, R.rd w A [z] a)
    (kk : ∀ w' u, SH w0 M K w' (hupd hp i (.own R E u (List.replicate k.toNat a))) → WL P ops Q rest n (updo env d u) w') :
    WL P ops Q (⟨d, .makeSlice T x y, ty, pos, af, none⟩ :: rest) n env w := by
  obtain ⟨h0, h1⟩ := hk
  obtain ⟨m, rfl⟩ := Int.eq_ofNat_of_zero_le h0
  obtain ⟨j, z', hi, hz', hsz, hby, hzs⟩ := hT.info
  have hzz := hz.info
  rw [hi] at hzz
  simp only [Option.map_some, Option.some.injEq, Prod.mk.injEq] at hzz
  have hle : m ≤ m * bytes := Nat.le_mul_of_pos_right _ hb
  have h1' : m * bytes ≤ 140737488355328 := by
    have : ((m * bytes : Nat) : Int) ≤ 140737488355328 := by rw [Int.natCast_mul]; exact h1
    omega
  obtain ⟨w', hr, ho, hg⟩ := run_make_full (P := P) w 0 T E j z 1 hT.desc hi hzz.1 hsz .i64 .i64 m (by rw [hby, Nat.mul_comm]; omega) (by unfold maxLen; omega) (Nat.zero_le _)
  have hg' : Grow w w' := (keep_of_grownBy (v := .slice none 0 0) hg).weaken (fun _ h _ => h.elim)
  have hrun : (execOp (ev n env) ⟨d, .makeSlice T x y, ty, pos, af, none⟩).run P w = .ok (.value (.slice (some ⟨w.heap.size, 0, none⟩) m m)) w' := by
    simp only [execOp, Sem.run_bind, Sem.run_pure, Result.andThen_ok, hx, hy, hr]
  refine wl_ok hrun (kk w' _ (h.gotOwn i hg' ⟨(madeCells z.cells (m * 1)).toList, ?_, ?_⟩ ?_))
  · rw [hs, List.length_replicate]
    exact ho
  · intro q hq
    simp only [List.length_replicate] at hq
    have hq' : q < m := hq
    rw [hs, hz.cell, toList_madeCells_one]
    have : (List.drop (q * 1) (List.replicate (m * 1) z)).take 1 = [z] := by
      rw [List.drop_replicate, List.take_replicate, show min 1 (m * 1 - q * 1) = 1 by omega]; rfl
    rw [this]
    simp only [List.getElem_replicate]
    exact ha _ _
  · intro b hb
    have : b = w.heap.size := hb
    omega
theorem run_appS {E u : TypeId} {A : BS} {l s : Str} (hT : ElemOf P T E 1 1) (hz : One P E (.int .u8 0)) (hu : P.underlying u = some .string) (hx : ρ x = v) (hv : OwnSl rByte E w A v l) (hy : ρ y = strV s)
    (hb : (l.length + s.length) * 1 ≤ 140737488355328) (hm : l.length + s.length ≤ 9223372036854775807) :
    ∃ v' w', (execOp ρ ⟨d, .call { callee := .builtin .append, args := #[x, y], argTypes := #[T, u] }, ty, pos, af, g⟩).run P w = .ok (.value v') w' ∧ OwnSl rByte E w' A v' (l ++ s) ∧ Keep (ob v) w w' ∧ (∀ b, ob v' b → b < w.heap.size → ob v b) := by
  obtain ⟨xs, ho, hr⟩ := hv
  obtain ⟨i, z', hi, hz', hsz, hby, hzs⟩ := hT.info
  have hzz := hz.info
  rw [hi] at hzz
  simp only [Option.map_some, Option.some.injEq, Prod.mk.injEq] at hzz
  have hss : (ByteArray.mk s.toArray).size = s.length := by simp [ByteArray.size]
  obtain ⟨v', w', h1, h2, h3, h4⟩ := Lib.run_append_own_string (P := P) w 0 T u ty E i hT.desc hu hi hzz.1 hsz hby v l.length xs ho ⟨s.toArray⟩ (by rw [hss]; unfold maxLen; omega) (by rw [hss]; omega) (Nat.zero_le _)
  have hk := keep_of_grownBy h3
  have hxl : xs.length = l.length := by simpa [rByte] using ho.1
  have hrun : (execOp ρ ⟨d, .call { callee := .builtin .append, args := #[x, y], argTypes := #[T, u] }, ty, pos, af, g⟩).run P w = .ok (.value v') w' := by
    simp only [execOp, resolve, invoke, builtin, Sem.run_bind, Sem.run_pure, Result.andThen_ok, List.map_toArray, List.map_cons, List.map_nil, hx, hy]
    rw [show (Builtin.append_ #[T, u] ty #[v, strV s]).run P w = _ from h1]
    rfl
  have hcs : Lib.strCells ⟨s.toArray⟩ = s.map fun b => Value.int .u8 (b.toNat : Int) := by simp [Lib.strCells]
  refine ⟨v', w', hrun, ⟨xs ++ Lib.strCells ⟨s.toArray⟩, ?_, ?_⟩, hk, ?_⟩
  · rw [List.length_append, ← hss]; exact h2
  · intro q hq
    show List.take 1 (List.drop (q * 1) _) = _
    rw [Nat.mul_one, hcs]
    by_cases hql : q < l.length
    · have := hr q hql
      have e1 : List.take 1 (List.drop (q * 1) xs) = [.int .u8 (l[q].toNat : Int)] := this
      rw [Nat.mul_one] at e1
      rw [List.drop_append_of_le_length (by omega), List.take_append_of_le_length (by rw [List.length_drop]; omega), e1, List.getElem_append_left hql]
    · rw [List.length_append] at hq
      rw [List.getElem_append_right (by omega), List.drop_append, List.drop_eq_nil_of_le (by omega), List.nil_append, hxl, List.drop_eq_getElem_cons (by simp; omega)]
      simp
  · intro b hb hl
    rcases ho.2 with ⟨rfl, hn⟩ | ⟨gg, cap, cur, rfl, _, hgg, hc, hcm, hcs', htake⟩
    · by_cases hm0 : s.length = 0
      · have hs0 : s = [] := List.eq_nil_of_length_eq_zero hm0
        subst hs0
        have : v' = .slice none 0 0 := h4.2 ⟨rfl, hss⟩
        subst this
        exact hb
      · have hr2 := run_append_nil_string (P := P) w T u ty E i (.int .u8 0) hT.desc hu hi hzz.1 ⟨s.toArray⟩ (by omega) (by omega) (by rw [hby]; omega)
        rw [hr2] at h1
        cases h1
        simp [ob] at hb
        omega
    · by_cases hroom : l.length + s.length ≤ cap
      · have hcs2 : cur.size = cap := by simpa [rByte] using hcs'
        have hr2 := Lib.run_append_room_string (P := P) w T u ty E i hT.desc hu hi hsz gg l.length cap cur hgg ⟨s.toArray⟩ (by omega) (by omega)
        rw [hr2] at h1
        cases h1
        exact hb
      · have holds : ∀ j u, xs[j]? = some u → w.cell? ((⟨gg, 0, none⟩ : Addr).add j) = some u := ho.cells (g := gg) rfl
        have hr2 := Lib.run_append_grow_string (P := P) w T u ty E i (.int .u8 0) hT.desc hu hi hzz.1 ⟨gg, 0, none⟩ l.length cap xs (by rw [hsz]; simpa using hxl) holds ⟨s.toArray⟩ (by omega) (by omega) (by rw [hby]; exact growslice_fits (by omega) (by omega))
        rw [hr2] at h1
        cases h1
        simp [ob] at hb
        omega
theorem w_appS {E u : TypeId} {l s : Str} (h : SH w0 M K w hp) (i : Nat) (hi : hp i = .own rByte E v l) (hT : ElemOf P T E 1 1) (hz : One P E (.int .u8 0)) (hu : P.underlying u = some .string) (hx : ev n env x = v) (hy : ev n env y = strV s)
    (hb : (l.length + s.length) * 1 ≤ 140737488355328) (hm : l.length + s.length ≤ 9223372036854775807)
    (k : ∀ w' v', SH w0 M K w' (hupd hp i (.own rByte E v' (l ++ s))) → Keep (ob v) w w' → WL P ops Q rest n (updo env d v') w') :
    WL P ops Q (⟨d, .call { callee := .builtin .append, args := #[x, y], argTypes := #[T, u] }, ty, pos, af, none⟩ :: rest) n env w := by
  obtain ⟨v', w', h1, h2, h3, h4⟩ := run_appS (d := d) (ty := ty) (pos := pos) (af := af) (g := none) hT hz hu hx (h.giveO i hi) hy hb hm
  exact wl_ok h1 (k w' v' (h.given i hi h2 h3 h4) h3)
theorem r_b2s {E D : TypeId} {B A : BS} {l : Str} (hs : P.underlying T = some (.slice E)) (he : P.underlying E = some (.int .u8)) (hd : P.underlying D = some .string) (hx : ρ x = v) (hv : Rd2 rByte w B A v l) :
    (execOp ρ ⟨d, .convert T D x, ty, pos, af, g⟩).run P w = .ok (.value (strV l)) w := by
  obtain ⟨a, cap, rfl, h1, h2, h3, h4⟩ := hv
  have key : (convert T D (.slice a l.length cap)).run P w = .ok (strV l) w := by
    cases l with
    | nil =>
      cases a with
      | none =>
        rw [run_convert_bytes_string w T D E none _ _ hs he hd]
        simp [Conv.bytesToString, strV]; rfl
      | some a =>
        exact run_convert_bytes_back w T D E a cap [] hs he hd (fun j hj => absurd hj (Nat.not_lt_zero _))
    | cons c r =>
      obtain ⟨b, o, cells, E', fz, rfl, _, _, _⟩ := h4 0 (by simp)
      refine run_convert_bytes_back w T D E ⟨b, o, none⟩ cap (c :: r) hs he hd (fun j hj => ?_)
      obtain ⟨b', o', cells', E2, fz2, e1, _, e2, e3⟩ := h4 j hj
      cases e1
      have e4 : List.take 1 (List.drop (o + j * 1) cells'.toList) = [.int .u8 ((c :: r)[j].toNat : Int)] := e3
      rw [Nat.mul_one] at e4
      have e5 : cells'.toList[o + j]? = some (.int .u8 ((c :: r)[j].toNat : Int)) := by
        have := congrArg (·[0]?) e4
        simpa [List.getElem?_take, List.getElem?_drop] using this
      rw [addr_add]
      simpa [World.cell?, e2] using e5
  simp only [execOp, Sem.run_bind, Sem.run_pure, hx, key, Result.andThen_ok]
theorem w_s2b {E D : TypeId} {s : Str} (h : SH w0 M K w hp) (i : Nat) (hs : P.underlying D = some .string) (hd : P.underlying T = some (.slice E)) (he : P.underlying E = some (.int .u8)) (hx : ev n env x = strV s) (hl : s.length ≤ 140737488355328)
    (k : ∀ w' u, SH w0 M K w' (hupd hp i (.rd rByte u s)) → Grow w w' → WL P ops Q rest n (updo env d u) w') :
    WL P ops Q (⟨d, .convert D T x, ty, pos, af, none⟩ :: rest) n env w := by
  have hr := Lib.run_convert_string_bytes (P := P) w D T E ⟨s.toArray⟩ hs hd he
  have hss : (ByteArray.mk s.toArray).size = s.length := by simp [ByteArray.size]
  rw [hss] at hr
  have hrun : (execOp (ev n env) ⟨d, .convert D T x, ty, pos, af, none⟩).run P w = .ok (.value (.slice (some ⟨w.heap.size, 0, none⟩) s.length (grownCap w s.length 0 E))) (Lib.bytesWorld w E ⟨s.toArray⟩) := by
    simp only [execOp, Sem.run_bind, Sem.run_pure, hx, strV, hr, Result.andThen_ok]
  have hg : Grow w (Lib.bytesWorld w E ⟨s.toArray⟩) := ⟨rfl, rfl, rfl, by rw [Lib.bytesWorld_size]; omega, fun b _ hb => Lib.bytesWorld_at_old w E _ b hb⟩
  refine wl_ok hrun (k _ _ (h.gotRd i hg ?_) hg)
  refine ⟨some ⟨w.heap.size, 0, none⟩, _, rfl, grownCap_ge w s.length 0 E, grownCap_le_maxLen w s.length 0 E (by unfold maxLen; omega), (fun h => by cases h), fun j hj => ⟨w.heap.size, 0, _, E, _, rfl, ?_, Lib.bytesWorld_at_new w E _, ?_⟩⟩
  · intro hA
    exact Nat.lt_irrefl _ (h.lt _ hA)
  · show List.take 1 (List.drop (0 + j * 1) _) = _
    rw [Nat.zero_add, Nat.mul_one]
    simp only [Lib.bytesCells]
    rw [List.drop_eq_getElem_cons (by simp; omega)]
    simp [hj]
theorem str_ex (s : Str) (a b : Nat) : (ByteArray.mk s.toArray).extract a b = ⟨((s.take b).drop a).toArray⟩ := by
  apply ByteArray.ext
  simp [ByteArray.data_extract, List.drop_take]
theorem str_size (s : Str) : (ByteArray.mk s.toArray).size = s.length := by simp [ByteArray.size]
def subs? (s : Str) (a b : Int) : Option Str := grd (0 ≤ a ∧ a ≤ b ∧ b ≤ s.length) (some (cut s a b))
theorem r_sls {s : Str} {lo hi : Option Operand} {a b : Int} (hT : P.underlying T = some .string) (hx : ρ x = strV s) (hlo : BndIs (lo.map ρ) a 0) (hhi : BndIs (hi.map ρ) b s.length) (ha : 0 ≤ a) (hab : a ≤ b) (hb : b ≤ s.length) :
    (execOp ρ ⟨d, .slice T x lo hi none, ty, pos, af, g⟩).run P w = .ok (.value (strV (cut s a b))) w := by
  obtain ⟨a, rfl⟩ := Int.eq_ofNat_of_zero_le ha
  obtain ⟨b, rfl⟩ := Int.eq_ofNat_of_zero_le (Int.le_trans ha hab)
  have hab' : a ≤ b := by omega
  have hb' : b ≤ s.length := by omega
  have hc : cut s (a : Int) (b : Int) = (s.take b).drop a := by simp [cut]
  have key : (Instr.slice T (strV s) (lo.map ρ) (hi.map ρ) none).run P w = .ok (strV ((s.take b).drop a)) w := by
    unfold strV
    rcases hlo with ⟨e1, e2⟩ | e1 <;> rcases hhi with ⟨e3, e4⟩ | e3
    · have e2' : a = 0 := by omega
      have e4' : b = s.length := by omega
      subst e2' e4'
      rw [e1, e3, run_slice_string_all w T _ hT, str_ex, str_size]
    · have e2' : a = 0 := by omega
      subst e2'
      rw [e1, e3, run_slice_string_to_if w T _ _ _ hT, if_pos ⟨by omega, by rw [str_size]; omega⟩, str_ex]; simp
    · have e4' : b = s.length := by omega
      subst e4'
      rw [e1, e3, run_slice_string_from_if w T _ _ _ hT, if_pos ⟨by omega, by rw [str_size]; omega⟩, str_ex, str_size]; simp
    · rw [e1, e3, run_slice_string w T _ _ _ _ _ hT (by omega) (by omega) (by rw [str_size]; omega), str_ex]; simp
  rw [hc]
  simp only [execOp, Sem.run_bind, Sem.run_pure, hx, Option.map_none, run_sliceAt_string w T _ _ _ _ hT, key, Result.andThen_ok]
theorem r_slsE {s r : Str} {lo hi : Option Operand} {a b : Int} (he : r = cut s a b) (hT : P.underlying T = some .string) (hx : ρ x = strV s) (hlo : BndIs (lo.map ρ) a 0) (hhi : BndIs (hi.map ρ) b s.length) (ha : 0 ≤ a) (hab : a ≤ b) (hb : b ≤ s.length) :
    (execOp ρ ⟨d, .slice T x lo hi none, ty, pos, af, g⟩).run P w = .ok (.value (strV r)) w := by
  subst he
  exact r_sls hT hx hlo hhi ha hab hb
theorem o_subs {s r : Str} {a b : Int} (h : subs? s a b = some r) : 0 ≤ a ∧ a ≤ b ∧ b ≤ s.length ∧ r = cut s a b := by
  obtain ⟨h1, h2⟩ := o_grd h
  exact ⟨h1.1, h1.2.1, h1.2.2, (Option.some.inj h2).symm⟩
/-- slices.Grow of nil: an empty slice of one's own. -/
theorem wl_growNil {α : Type} {R : Rep α} {E tn : TypeId} {sz bytes : Nat} {A : BS} {k : Nat} (hT : ElemOf P T E sz bytes) (hs : R.sz = sz) (ht : P.underlying tn = some (.int .i64)) (hx : ev n env x = .slice none 0 0) (hy : ev n env y = .int .i64 (k : Nat)) (hk : 0 < k) (hb : 0 < bytes)
    (hbb : k * bytes ≤ 140737488355328)
    (h : ∀ w' gg cap, Grow w w' → w.heap.size ≤ gg → gg < w'.heap.size → k ≤ cap → OwnSl R E w' A (.slice (some ⟨gg, 0, none⟩) 0 cap) ([] : List α) → WL P ops Q rest n (updo env d (.slice (some ⟨gg, 0, none⟩) k cap)) w') :
    WL P ops Q (⟨d, .call { callee := .builtin .append, args := #[x, y], argTypes := #[T, tn] }, ty, pos, af, none⟩ :: rest) n env w := by
  obtain ⟨i, z, hi, hz, hsz, hby, hzs⟩ := hT.info
  have hpos := R.pos
  have hle : k ≤ k * bytes := Nat.le_mul_of_pos_right _ hb
  have hr := Lib.run_append_nil_zeros (P := P) w T tn ty E i z .i64 .i64 hT.desc ht hi hz k hk (by omega) (by omega) (by rw [hby]; omega)
  have hrun : (execOp (ev n env) ⟨d, .call { callee := .builtin .append, args := #[x, y], argTypes := #[T, tn] }, ty, pos, af, none⟩).run P w = .ok (.value (.slice (some ⟨w.heap.size, 0, none⟩) k (grownCap w k 0 E))) (w.drew.alloc (.cells (Builtin.zeroCells z.cells k ++ Builtin.zeroCells z.cells (grownCap w k 0 E - k)) E)) := by
    simp only [execOp, resolve, invoke, builtin, Sem.run_bind, Sem.run_pure, Result.andThen_ok, List.map_toArray, List.map_cons, List.map_nil, hx, hy, hr]
  have hge := grownCap_ge w k 0 E
  have hcm : grownCap w k 0 E ≤ maxLen := grownCap_le_maxLen w k 0 E (by unfold maxLen; omega)
  refine wl_ok hrun (h _ _ _ ((Grow.drew w).trans (Grow.alloc _ _)) (Nat.le_refl _) ?_ hge ⟨[], ⟨by simp, .inr ⟨w.heap.size, _, _, rfl, Nat.zero_le _, heap_alloc_new w.drew _, Nat.zero_le _, hcm, ?_, by simp⟩⟩, fun i h => absurd h (Nat.not_lt_zero _)⟩)
  · show w.heap.size < (w.drew.alloc _).heap.size
    rw [alloc_size]; exact Nat.lt_succ_self _
  · rw [Array.size_append, size_zeroCells, size_zeroCells, hzs, hs, ← Nat.add_mul]
    congr 1; omega
end
end Go.LX

namespace Go.LX
open Go.RowKit
/-- What the package-level variables hold that the library reads. -/
structure Tabs (P : Program) (g : Nat) (w : World) : Prop where
  pow : Lib.TabIs P w "internal/strconv.uint64pow10" .u64 Lib.pow10Tab
  syn : ∃ t p, w.var? P "strconv.ErrSyntax" = some #[.iface t p]
  ran : ∃ t p, w.var? P "strconv.ErrRange" = some #[.iface t p]
  max : ∃ m, w.cell? ⟨g, 0, none⟩ = some (.int .i64 m)
  many : P.globals.size ≤ w.heap.size
  gmax : g < P.globals.size
  asc : ∀ q, P.globalNamed "strings.asciiSpace" = some q → Lib.TabIs P w "strings.asciiSpace" .u8 Lib.asciiSpaceTab
theorem Grow.var {P : Program} {w w' : World} {s : String} {cs : Array Value} (hk : Grow w w') (h : w.var? P s = some cs) : w'.var? P s = some cs := by
  unfold World.var? at h ⊢
  cases hg : P.globalNamed s with
  | none => simp [hg] at h
  | some g =>
    simp only [hg, Option.bind_some] at h ⊢
    cases hb : w.heap[g]? with
    | none => simp [hb] at h
    | some o => rw [hk.blk hb]; rw [hb] at h; exact h
theorem Grow.cellA {w w' : World} {a : Addr} {v : Value} (hk : Grow w w') (h : w.cell? a = some v) : w'.cell? a = some v := by
  unfold World.cell? at h ⊢
  cases hb : w.heap[a.block]? with
  | none => simp [hb] at h
  | some o => rw [hk.blk hb]; rw [hb] at h; exact h
theorem globalNamed_lt {P : Program} {s : String} {i : Nat} (h : P.globalNamed s = some i) : i < P.globals.size := by
  unfold Program.globalNamed at h
  split at h
  · rename_i g hg
    cases h
    have : i ∈ (List.range P.globals.size).filter fun g => (P.globals[g]?).any (·.name == s) := by rw [hg]; simp
    exact List.mem_range.1 (List.mem_filter.1 this).1
  · cases h
theorem Keep.var {P : Program} {K : BS} {w w' : World} {s : String} {cs : Array Value} (hk : Keep K w w') (hK : ∀ b, K b → P.globals.size ≤ b) (h : w.var? P s = some cs) : w'.var? P s = some cs := by
  unfold World.var? at h ⊢
  cases hg : P.globalNamed s with
  | none => simp [hg] at h
  | some g =>
    have hl := globalNamed_lt hg
    simp only [hg, Option.bind_some] at h ⊢
    cases hb : w.heap[g]? with
    | none => simp [hb] at h
    | some o => rw [hk.blk hb (fun hq => absurd (hK _ hq) (by omega))]; rw [hb] at h; exact h
theorem Tabs.goK {P : Program} {g : Nat} {K : BS} {w w' : World} (h : Tabs P g w) (hk : Keep K w w') (hK : ∀ b, K b → P.globals.size ≤ b) : Tabs P g w' := by
  obtain ⟨h1, ⟨t2, p2, h2⟩, ⟨t3, p3, h3⟩, ⟨m, h4⟩, h5, h6, h7⟩ := h
  refine ⟨hk.var hK h1, ⟨t2, p2, hk.var hK h2⟩, ⟨t3, p3, hk.var hK h3⟩, ⟨m, ?_⟩, Nat.le_trans h5 hk.size, h6, fun q hq => hk.var hK (h7 q hq)⟩
  unfold World.cell? at h4 ⊢
  cases hb : w.heap[g]? with
  | none => simp [hb] at h4
  | some o => rw [hk.blk hb (fun hq => absurd (hK _ hq) (by omega))]; rw [hb] at h4; exact h4
theorem Tabs.go {P : Program} {g : Nat} {w w' : World} (h : Tabs P g w) (hk : Grow w w') : Tabs P g w' := h.goK hk (fun _ h => h.elim)
/-- What a piece owns lies above the variables. -/
theorem SH.aboveG {P : Program} {g : Nat} {w0 w : World} {M K : BS} {hp : Nat → Chunk} {C : Chunk} (h : SH w0 M K w hp) (hT : Tabs P g w0) (hG : ∀ b, K b → P.globals.size ≤ b) (i : Nat) (hi : hp i = C) : ∀ b, C.own' b → P.globals.size ≤ b := by
  subst hi
  intro b hb
  rcases Nat.lt_or_ge b w0.heap.size with hl | hl
  · exact hG b (h.old i b hb hl)
  · exact Nat.le_trans hT.many hl
theorem Grow.drewN (w : World) (k : Nat) : Grow w (w.drewN k) := ⟨rfl, rfl, rfl, Nat.le_refl _, fun _ _ _ => rfl⟩
theorem Grow.growN {w : World} {os : Array Obj} : Grow w (Sort.grow w os) := ⟨rfl, rfl, rfl, by simp [Sort.grow], fun b _ hb => by simp [Sort.grow, Array.getElem?_append_left hb]⟩
/-! ### what the library's functions compute -/
def itoaS (n : Int) : Option Str := grd (I64 n) (some (Lib.itoa n))
def atoiS (s : Str) : Option (Int × Bool) := grd (s.length ≤ 281474976710656) (some (match Lib.atoiAll s with | .ok v => (v, false) | .range => (Lib.atoiSat s, true) | _ => (0, true)))
def parseS (s : Str) : Option (Int × Bool) := grd (s.length ≤ 281474976710656) (some (match Lib.parseIntB 64 s with | .ok v => (v, false) | .range => (Lib.intSat 64 s, true) | _ => (0, true)))
def joinS (l : List Str) (sep : Str) : Option Str := grd (l.length ≤ 140737488355328 ∧ (Lib.join l sep).length ≤ 140737488355328) (some (Lib.join l sep))
def splitS (s sep : Str) : Option (List Str) := grd (s.length < 4294967281 ∧ 1 ≤ sep.length) (some (Lib.split s sep))
def splitAfterS (s sep : Str) : Option (List Str) := grd (s.length < 4294967281 ∧ 1 ≤ sep.length) (some (Lib.splitK sep sep.length (Lib.count s sep) s))
def cutS (s sep : Str) : Option (Str × Str × Bool) := grd (s.length < 4294967281) (some (Lib.cut s sep))
def hasSufS (s p : Str) : Option Bool := grd (s.length ≤ 281474976710656) (some (Lib.hasSuffix s p))
section
variable {P : Program} {g : Nat} {w0 : World} {f : FuncId} {M : BS}
theorem calls_grow {args : Array Value} {w : World} {R R' : Ending → World → Prop} (h : Calls P f args w R) (hm : ∀ e w', R e w' → R' e w') : Calls P f args w R' := h.mono hm
theorem itoa_w (hc : ∀ n, -9223372036854775808 ≤ n → n ≤ 9223372036854775807 → ∀ w, Lib.TabIs P w "internal/strconv.uint64pow10" .u64 Lib.pow10Tab → Calls P f #[.int .i64 n] w fun e w' => e = .returned (.string ⟨(Lib.itoa n).toArray⟩) ∧ ∃ k os, w' = Sort.grow (w.drewN k) os)
    (hT : Tabs P g w0) {a : Int} {r : Str} (hs : itoaS a = some r) : Calls P f #[.int .i64 a] w0 (fun e w' => Grow w0 w' ∧ e = .returned (strV r)) := by
  obtain ⟨h, hs⟩ := o_grd hs
  cases hs
  refine (hc a h.1 h.2 w0 hT.pow).mono ?_
  rintro e w' ⟨rfl, k, os, rfl⟩
  exact ⟨(Grow.drewN w0 k).trans Grow.growN, rfl⟩
theorem format_w (hc : ∀ n, -9223372036854775808 ≤ n → n ≤ 9223372036854775807 → ∀ w, Lib.TabIs P w "internal/strconv.uint64pow10" .u64 Lib.pow10Tab → Calls P f #[.int .i64 n, .int .i64 10] w fun e w' => e = .returned (.string ⟨(Lib.itoa n).toArray⟩) ∧ ∃ k os, w' = Sort.grow (w.drewN k) os)
    (hT : Tabs P g w0) {a : Int} {r : Str} (hs : itoaS a = some r) : Calls P f #[.int .i64 a, .int .i64 10] w0 (fun e w' => Grow w0 w' ∧ e = .returned (strV r)) := by
  obtain ⟨h, hs⟩ := o_grd hs
  cases hs
  refine (hc a h.1 h.2 w0 hT.pow).mono ?_
  rintro e w' ⟨rfl, k, os, rfl⟩
  exact ⟨(Grow.drewN w0 k).trans Grow.growN, rfl⟩
theorem bw_grow (w : World) (t : TypeId) (s : ByteArray) : Grow w (Lib.bytesWorld w t s) := ⟨rfl, rfl, rfl, by rw [Lib.bytesWorld_size]; omega, fun b _ hb => Lib.bytesWorld_at_old w t _ b hb⟩
theorem atoi_w {T5 T168 T210 : TypeId} {nm : ByteArray} (h1 : ∀ s : ByteArray, s.size ≤ 9223372036854775806 → ∀ v, Lib.atoiAll s.data.toList = .ok v → ∀ w, Calls P f #[.string s] w fun e w' => e = .returned (.tuple #[.int .i64 v, .nilIface]) ∧ (w' = w ∨ ∃ t, w' = Lib.bytesWorld w T5 t))
    (h2 : ∀ s : ByteArray, s.size ≤ 281474976710656 → ∀ e, Lib.atoiAll s.data.toList = e → (∀ v, e ≠ .ok v) → e ≠ .range → ∀ tp p w, w.var? P "strconv.ErrSyntax" = some #[.iface tp p] → Calls P f #[.string s] w fun e w' => ∃ N, e = .returned (.tuple #[.int .i64 0, .iface T168 (.pointer (some ⟨N, 0, none⟩))]) ∧ w.heap.size ≤ N ∧ w'.heap[N]? = some (.cells #[.string nm, .string s, .iface tp p] T210 (0, 0)) ∧ Below w.heap.size w w')
    (h3 : ∀ s : ByteArray, s.size ≤ 281474976710656 → Lib.atoiAll s.data.toList = .range → ∀ tp p w, w.var? P "strconv.ErrRange" = some #[.iface tp p] → Calls P f #[.string s] w fun e w' => ∃ N, e = .returned (.tuple #[.int .i64 (Lib.atoiSat s.data.toList), .iface T168 (.pointer (some ⟨N, 0, none⟩))]) ∧ w.heap.size ≤ N ∧ w'.heap[N]? = some (.cells #[.string nm, .string s, .iface tp p] T210 (0, 0)) ∧ Below w.heap.size w w')
    (hT : Tabs P g w0) {s : Str} {r : Int × Bool} (hs : atoiS s = some r) : Calls P f #[strV s] w0 (fun e w' => Grow w0 w' ∧ ∃ u, e = .returned (.tuple #[.int .i64 r.1, u]) ∧ IsErr u r.2) := by
  obtain ⟨h, hs⟩ := o_grd hs
  have hsz := str_size s
  cases hq : Lib.atoiAll s with
  | ok v =>
    rw [hq] at hs; cases hs
    refine (h1 ⟨s.toArray⟩ (by omega) v (by simpa using hq) w0).mono ?_
    rintro e w' ⟨rfl, hw⟩
    refine ⟨?_, _, rfl, .inl ⟨rfl, rfl⟩⟩
    rcases hw with rfl | ⟨t, rfl⟩
    · exact Keep.refl _ _
    · exact bw_grow _ _ _
  | range =>
    rw [hq] at hs; cases hs
    obtain ⟨t, p, hv⟩ := hT.ran
    refine (h3 ⟨s.toArray⟩ (by omega) (by simpa using hq) t p w0 hv).mono ?_
    rintro e w' ⟨N, rfl, _, _, hb⟩
    refine ⟨Grow.of_below hb, .iface T168 (.pointer (some ⟨N, 0, none⟩)), by simp, .inr ⟨rfl, _, _, rfl⟩⟩
  | _ =>
    rw [hq] at hs; cases hs
    obtain ⟨t, p, hv⟩ := hT.syn
    refine (h2 ⟨s.toArray⟩ (by omega) _ (by simpa using hq) (fun v => by simp) (by simp) t p w0 hv).mono ?_
    rintro e w' ⟨N, rfl, _, _, hb⟩
    exact ⟨Grow.of_below hb, _, rfl, .inr ⟨rfl, _, _, rfl⟩⟩
theorem parse_w {T5 T168 T210 : TypeId} {nm : ByteArray} (h1 : ∀ s : ByteArray, s.size ≤ 9223372036854775806 → ∀ v, Lib.parseIntB 64 s.data.toList = .ok v → ∀ w, Calls P f #[.string s, .int .i64 10, .int .i64 64] w fun e w' => e = .returned (.tuple #[.int .i64 v, .nilIface]) ∧ (w' = w ∨ ∃ t, w' = Lib.bytesWorld w T5 t))
    (h2 : ∀ s : ByteArray, s.size ≤ 281474976710656 → ∀ e, Lib.parseIntB 64 s.data.toList = e → (∀ v, e ≠ .ok v) → e ≠ .range → ∀ tp p w, w.var? P "strconv.ErrSyntax" = some #[.iface tp p] → Calls P f #[.string s, .int .i64 10, .int .i64 64] w fun e w' => ∃ N, e = .returned (.tuple #[.int .i64 0, .iface T168 (.pointer (some ⟨N, 0, none⟩))]) ∧ w.heap.size ≤ N ∧ w'.heap[N]? = some (.cells #[.string nm, .string s, .iface tp p] T210 (0, 0)) ∧ Below w.heap.size w w')
    (h3 : ∀ s : ByteArray, s.size ≤ 281474976710656 → Lib.parseIntB 64 s.data.toList = .range → ∀ tp p w, w.var? P "strconv.ErrRange" = some #[.iface tp p] → Calls P f #[.string s, .int .i64 10, .int .i64 64] w fun e w' => ∃ N, e = .returned (.tuple #[.int .i64 (Lib.intSat 64 s.data.toList), .iface T168 (.pointer (some ⟨N, 0, none⟩))]) ∧ w.heap.size ≤ N ∧ w'.heap[N]? = some (.cells #[.string nm, .string s, .iface tp p] T210 (0, 0)) ∧ Below w.heap.size w w')
    (hT : Tabs P g w0) {s : Str} {r : Int × Bool} (hs : parseS s = some r) : Calls P f #[strV s, .int .i64 10, .int .i64 64] w0 (fun e w' => Grow w0 w' ∧ ∃ u, e = .returned (.tuple #[.int .i64 r.1, u]) ∧ IsErr u r.2) := by
  obtain ⟨h, hs⟩ := o_grd hs
  have hsz := str_size s
  cases hq : Lib.parseIntB 64 s with
  | ok v =>
    rw [hq] at hs; cases hs
    refine (h1 ⟨s.toArray⟩ (by omega) v (by simpa using hq) w0).mono ?_
    rintro e w' ⟨rfl, hw⟩
    refine ⟨?_, _, rfl, .inl ⟨rfl, rfl⟩⟩
    rcases hw with rfl | ⟨t, rfl⟩
    · exact Keep.refl _ _
    · exact bw_grow _ _ _
  | range =>
    rw [hq] at hs; cases hs
    obtain ⟨t, p, hv⟩ := hT.ran
    refine (h3 ⟨s.toArray⟩ (by omega) (by simpa using hq) t p w0 hv).mono ?_
    rintro e w' ⟨N, rfl, _, _, hb⟩
    refine ⟨Grow.of_below hb, .iface T168 (.pointer (some ⟨N, 0, none⟩)), by simp, .inr ⟨rfl, _, _, rfl⟩⟩
  | _ =>
    rw [hq] at hs; cases hs
    obtain ⟨t, p, hv⟩ := hT.syn
    refine (h2 ⟨s.toArray⟩ (by omega) _ (by simpa using hq) (fun v => by simp) (by simp) t p w0 hv).mono ?_
    rintro e w' ⟨N, rfl, _, _, hb⟩
    exact ⟨Grow.of_below hb, _, rfl, .inr ⟨rfl, _, _, rfl⟩⟩
theorem rdStr_at {A B : BS} {a : Option Addr} {n c : Nat} {l : List Str} (hv : Rd2 rStr w0 B A (.slice a n c) l) (hl : 0 < l.length) : ∃ bk o, a = some ⟨bk, o, none⟩ ∧ bk < w0.heap.size ∧ ∀ j x, l[j]? = some x → w0.cell? ⟨bk, o + j, none⟩ = some (strV x) := by
  obtain ⟨a', cap, e1, h1, h2, h3, h4⟩ := hv
  cases e1
  obtain ⟨b, o, cells, E, fz, rfl, _, hb, _⟩ := h4 0 hl
  refine ⟨b, o, rfl, lt_of_blk hb, fun j x hj => ?_⟩
  obtain ⟨hjl, hjx⟩ := List.getElem?_eq_some_iff.1 hj
  obtain ⟨b', o', cells', E2, fz2, e1, _, e2, e3⟩ := h4 j hjl
  cases e1
  have e4 : List.take 1 (List.drop (o + j * 1) cells'.toList) = [strV l[j]] := e3
  rw [Nat.mul_one] at e4
  have e5 : cells'.toList[o + j]? = some (strV l[j]) := by
    have := congrArg (·[0]?) e4
    simpa [List.getElem?_take, List.getElem?_drop] using this
  rw [← hjx]
  simpa [World.cell?, e2] using e5
theorem join_w (h0 : ∀ (a : Option Addr) (c : Nat) (sep : ByteArray) (w : World), Calls P f #[.slice a 0 c, .string sep] w fun e w' => e = .returned (.string ⟨#[]⟩) ∧ w' = w)
    (h1 : ∀ (bk o c : Nat) (xs : List ByteArray) (sep : ByteArray) (w : World), (∀ (j : Nat) x, xs[j]? = some x → w.cell? ⟨bk, o + j, none⟩ = some (.string x)) → bk < w.heap.size → xs.length ≤ 140737488355328 → xs.length ≤ c → (Lib.join (xs.map (·.data.toList)) sep.data.toList).length ≤ 140737488355328 →
      Calls P f #[.slice (some ⟨bk, o, none⟩) xs.length c, .string sep] w fun e w' => e = .returned (.string ⟨(Lib.join (xs.map (·.data.toList)) sep.data.toList).toArray⟩) ∧ Below w.heap.size w w')
    {v : Value} {A B : BS} {l : List Str} {sep r : Str} (hv : Rd2 rStr w0 B A v l) (hs : joinS l sep = some r) : Calls P f #[v, strV sep] w0 (fun e w' => Grow w0 w' ∧ e = .returned (strV r)) := by
  obtain ⟨h, hs⟩ := o_grd hs
  cases hs
  have hv0 := hv
  obtain ⟨a, cap, rfl, k1, k2, k3, k4⟩ := hv
  cases l with
  | nil =>
    refine (h0 a cap _ w0).mono ?_
    rintro e w' ⟨rfl, rfl⟩
    exact ⟨Keep.refl _ _, rfl⟩
  | cons x l =>
    obtain ⟨bk, o, rfl, hb, hc⟩ := rdStr_at hv0 (by simp)
    have hm : ((x :: l).map fun s => (⟨s.toArray⟩ : ByteArray)).map (·.data.toList) = x :: l := by simp [Function.comp_def]
    have := h1 bk o cap ((x :: l).map fun s => ⟨s.toArray⟩) ⟨sep.toArray⟩ w0 (fun j y hj => by
      rw [List.getElem?_map] at hj
      cases hq : (x :: l)[j]? with
      | none => rw [hq] at hj; cases hj
      | some s => rw [hq] at hj; cases hj; exact hc j s hq) hb (by simpa using h.1) (by simpa using k1) (by rw [hm]; simpa using h.2)
    rw [hm, List.length_map] at this
    refine this.mono ?_
    rintro e w' ⟨rfl, hw⟩
    exact ⟨Grow.of_below hw, by simp [strV]⟩
theorem strs_rd {E : TypeId} {l : List ByteArray} {A : BS} {cells : Array Value} {cap : Nat} (w : World) (hA : ∀ b, A b → b < w.heap.size) (hcap : l.length ≤ cap) (hm : cap ≤ maxLen) (hcells : ∀ j (h : j < l.length), cells[j]? = some (.string l[j])) : RdSl rStr (w.alloc (.cells cells E)) A (.slice (some ⟨w.heap.size, 0, none⟩) l.length cap) (l.map (·.data.toList)) := by
  refine ⟨some ⟨w.heap.size, 0, none⟩, cap, by simp, by simpa using hcap, hm, (fun h => by cases h), fun j hj => ⟨w.heap.size, 0, cells, E, (0, 0), rfl, ?_, alloc_blk w _, ?_⟩⟩
  · intro hb; exact Nat.lt_irrefl _ (hA _ hb)
  · have hj' : j < l.length := by simpa using hj
    show List.take 1 (List.drop (0 + j * 1) cells.toList) = _
    have hc := hcells j hj'
    have hjl : j < cells.toList.length := by
      rw [Array.length_toList]
      rcases Nat.lt_or_ge j cells.size with q | q
      · exact q
      · rw [Array.getElem?_eq_none q] at hc; cases hc
    rw [Nat.zero_add, Nat.mul_one, List.drop_eq_getElem_cons hjl]
    have : cells.toList[j] = .string l[j] := by
      have := hc
      rw [← Array.getElem?_toList, List.getElem?_eq_getElem hjl] at this
      exact Option.some.inj this
    rw [this]
    simp [strV]
theorem split_w {E : TypeId} (hc : ∀ (s sep : ByteArray) (m : Int) (w : World), s.size < 4294967281 → w.cell? ⟨g, 0, none⟩ = some (.int .i64 m) → 1 ≤ sep.size →
    Calls P f #[.string s, .string sep] w fun e w' => e = .returned (.slice (some ⟨w.heap.size, 0, none⟩) (Lib.countB s sep + 1) (Lib.countB s sep + 1)) ∧ w' = w.alloc (.cells ((Lib.splitB sep 0 (Lib.countB s sep) s).map Value.string).toArray E))
    (hM : ∀ b, M b → b < w0.heap.size) (hT : Tabs P g w0) {s sep : Str} {r : List Str} (hs : splitS s sep = some r) : Calls P f #[strV s, strV sep] w0 (fun e w' => Grow w0 w' ∧ ∃ u, e = .returned u ∧ RdSl rStr w' M u r) := by
  obtain ⟨h, hs⟩ := o_grd hs
  cases hs
  obtain ⟨m, hm⟩ := hT.max
  refine (hc ⟨s.toArray⟩ ⟨sep.toArray⟩ m w0 (by rw [str_size]; exact h.1) hm (by rw [str_size]; exact h.2)).mono ?_
  rintro e w' ⟨rfl, rfl⟩
  refine ⟨Grow.alloc _ _, _, rfl, ?_⟩
  have h1 := Lib.splitB_all ⟨sep.toArray⟩ (by rw [str_size]; exact h.2) 0 _ ⟨s.toArray⟩ rfl
  have h2 := Lib.splitB_data ⟨sep.toArray⟩ 0 (Lib.countB ⟨s.toArray⟩ ⟨sep.toArray⟩) ⟨s.toArray⟩
  have h3 : Lib.countB ⟨s.toArray⟩ ⟨sep.toArray⟩ = Lib.count s sep := by simp [Lib.countB]
  have h4 := Lib.countB_le ⟨sep.toArray⟩ (by rw [str_size]; exact h.2) _ ⟨s.toArray⟩ (Nat.le_refl _)
  rw [str_size] at h4
  have := strs_rd (E := E) (l := Lib.splitB ⟨sep.toArray⟩ 0 (Lib.countB ⟨s.toArray⟩ ⟨sep.toArray⟩) ⟨s.toArray⟩) (cap := Lib.countB ⟨s.toArray⟩ ⟨sep.toArray⟩ + 1) (cells := ((Lib.splitB ⟨sep.toArray⟩ 0 (Lib.countB ⟨s.toArray⟩ ⟨sep.toArray⟩) ⟨s.toArray⟩).map Value.string).toArray) w0 hM (by rw [h1]; exact Nat.le_refl _) (by unfold maxLen; omega) (fun j hj => by simp [hj])
  rw [h1, h2] at this
  simpa [Lib.split, h3] using this
theorem genSplit_w {E : TypeId} (hc : ∀ (s sep : ByteArray) (sv : Nat) (n : Int) (N : Nat) (m : Int) (w : World), s.size < 4294967281 → w.cell? ⟨g, 0, none⟩ = some (.int .i64 m) → 1 ≤ sep.size → sv ≤ sep.size → n ≠ 0 → n ≤ 9223372036854775807 → (N : Int) = min (if n < 0 then (Lib.countB s sep : Int) + 1 else n) ((s.size : Int) + 1) →
    Calls P f #[.string s, .string sep, .int .i64 sv, .int .i64 n] w fun e w' => e = .returned (.slice (some ⟨w.heap.size, 0, none⟩) (Lib.splitB sep sv (N - 1) s).length N) ∧ w' = w.alloc (.cells (Lib.cellsOf (Lib.splitB sep sv (N - 1) s) N) E))
    (hM : ∀ b, M b → b < w0.heap.size) (hT : Tabs P g w0) {s sep : Str} {r : List Str} (hs : splitAfterS s sep = some r) : Calls P f #[strV s, strV sep, .int .i64 (sep.length : Int), .int .i64 (-1)] w0 (fun e w' => Grow w0 w' ∧ ∃ u, e = .returned u ∧ RdSl rStr w' M u r) := by
  obtain ⟨h, hs⟩ := o_grd hs
  cases hs
  obtain ⟨m, hm⟩ := hT.max
  have h3 : Lib.countB ⟨s.toArray⟩ ⟨sep.toArray⟩ = Lib.count s sep := by simp [Lib.countB]
  have h4 := Lib.countB_le ⟨sep.toArray⟩ (by rw [str_size]; exact h.2) _ ⟨s.toArray⟩ (Nat.le_refl _)
  rw [str_size] at h4
  refine (hc ⟨s.toArray⟩ ⟨sep.toArray⟩ sep.length (-1) (Lib.countB ⟨s.toArray⟩ ⟨sep.toArray⟩ + 1) m w0 (by rw [str_size]; exact h.1) hm (by rw [str_size]; exact h.2) (by rw [str_size]; exact Nat.le_refl _) (by decide) (by decide) (by rw [if_pos (by decide), str_size]; omega)).mono ?_
  rintro e w' ⟨rfl, rfl⟩
  refine ⟨Grow.alloc _ _, _, rfl, ?_⟩
  rw [Nat.add_sub_cancel]
  have h1 := Lib.splitB_all ⟨sep.toArray⟩ (by rw [str_size]; exact h.2) sep.length _ ⟨s.toArray⟩ rfl
  have h2 := Lib.splitB_data ⟨sep.toArray⟩ sep.length (Lib.countB ⟨s.toArray⟩ ⟨sep.toArray⟩) ⟨s.toArray⟩
  have := strs_rd (E := E) (l := Lib.splitB ⟨sep.toArray⟩ sep.length (Lib.countB ⟨s.toArray⟩ ⟨sep.toArray⟩) ⟨s.toArray⟩) (cap := Lib.countB ⟨s.toArray⟩ ⟨sep.toArray⟩ + 1) (cells := Lib.cellsOf (Lib.splitB ⟨sep.toArray⟩ sep.length (Lib.countB ⟨s.toArray⟩ ⟨sep.toArray⟩) ⟨s.toArray⟩) (Lib.countB ⟨s.toArray⟩ ⟨sep.toArray⟩ + 1)) w0 hM (by rw [h1]; exact Nat.le_refl _) (by unfold maxLen; omega) (fun j hj => by unfold Lib.cellsOf; rw [List.getElem?_toArray, List.getElem?_append_left (by simpa using hj)]; simp [hj])
  rw [h2] at this
  simpa [h3] using this
theorem hasSuf_w (hc : ∀ (s p : ByteArray) (w : World), s.size ≤ 9223372036854775807 → Calls P f #[.string s, .string p] w fun e w' => e = .returned (.bool (Lib.hasSuffix s.data.toList p.data.toList)) ∧ w' = w)
    {s p : Str} {r : Bool} (hs : hasSufS s p = some r) : Calls P f #[strV s, strV p] w0 (fun e w' => Grow w0 w' ∧ e = .returned (.bool r)) := by
  obtain ⟨h, hs⟩ := o_grd hs
  cases hs
  refine (hc ⟨s.toArray⟩ ⟨p.toArray⟩ w0 (by rw [str_size]; omega)).mono ?_
  rintro e w' ⟨rfl, rfl⟩
  exact ⟨Keep.refl _ _, by simp⟩
theorem cut_w (hc : ∀ (s sep : ByteArray) (m : Int) (w : World), s.size < 4294967281 → w.cell? ⟨g, 0, none⟩ = some (.int .i64 m) → Calls P f #[.string s, .string sep] w fun e w' => e = .returned (.tuple #[.string ⟨(Lib.cut s.data.toList sep.data.toList).1.toArray⟩, .string ⟨(Lib.cut s.data.toList sep.data.toList).2.1.toArray⟩, .bool (Lib.cut s.data.toList sep.data.toList).2.2]) ∧ ∃ n, w' = w.drewN n)
    (hT : Tabs P g w0) {s sep : Str} {r : Str × Str × Bool} (hs : cutS s sep = some r) : Calls P f #[strV s, strV sep] w0 (fun e w' => Grow w0 w' ∧ e = .returned (.tuple #[strV r.1, strV r.2.1, .bool r.2.2])) := by
  obtain ⟨h, hs⟩ := o_grd hs
  cases hs
  obtain ⟨m, hm⟩ := hT.max
  refine (hc ⟨s.toArray⟩ ⟨sep.toArray⟩ m w0 (by rw [str_size]; exact h) hm).mono ?_
  rintro e w' ⟨rfl, n, rfl⟩
  exact ⟨Grow.drewN _ _, by simp [strV]⟩
end
end Go.LX

namespace Go.LX
open Go.RowKit
section
variable {P : Program} {ops : Array Oper} {Q : Exit → Act → World → Prop} {n : Nat} {env : Nat → Value} {w w' w0 : World} {M K : BS} {hp : Nat → Chunk} {rest : List Oper}
  {d : Option Nat} {op : Op} {ty : TypeId} {pos : String} {af : Array Edge} {v : Value} {g : Option (Nat × Bool)} {T : TypeId} {ρ : Operand → Value} {x y : Operand} {i fuel : Nat} {listed : Array Bool}
theorem SH.loseC {c : Chunk} (h : SH w0 M K w hp) (i : Nat) (hi : hp i = c) (hk : Keep c.own' w w') : SH w0 M K w' (hupd hp i .no) :=
  h.step i hk (fun b hb _ => by rw [hi]; exact hb) (fun b hb => hb.elim) trivial
theorem SH.loseC2 {c e : Chunk} (h : SH w0 M K w hp) (i j : Nat) (hij : i ≠ j) (hi : hp i = c) (hj : hp j = e) (hk : Keep (fun b => c.own' b ∨ e.own' b) w w') : SH w0 M K w' (hupd (hupd (hupd hp j .no) i (.two (hp i) (hp j))) i .no) := by
  refine (h.pair i j hij).loseC i (c := .two (hp i) (hp j)) (hupd_same _ _ _) ?_
  rw [hi, hj]
  exact hk
theorem w_allocNG {zs : List Value} (h : SH w0 M K w hp) (i : Nat) (hT : Many P T zs) (k : ∀ w' b, SH w0 M K w' (hupd hp i (.blk b zs)) → Grow w w' → w.heap.size ≤ b → WL P ops Q rest n (updo env d (.pointer (some ⟨b, 0, none⟩))) w') : WL P ops Q (⟨d, .alloc T, ty, pos, af, none⟩ :: rest) n env w :=
  wl_ok (r_allocN hT) (k _ _ (h.newB i zs T) (Grow.alloc _ _) (Nat.le_refl _))
theorem w_alloc1G {z : Value} (h : SH w0 M K w hp) (i : Nat) (hT : One P T z) (k : ∀ w' b, SH w0 M K w' (hupd hp i (.blk b [z])) → Grow w w' → w.heap.size ≤ b → WL P ops Q rest n (updo env d (.pointer (some ⟨b, 0, none⟩))) w') : WL P ops Q (⟨d, .alloc T, ty, pos, af, none⟩ :: rest) n env w :=
  wl_ok (r_alloc1 hT) (k _ _ (h.newB i [z] T) (Grow.alloc _ _) (Nat.le_refl _))
theorem w_boxG {cs : List Value} (h : SH w0 M K w hp) (i : Nat) (hx : ev n env x = v) (hv : v.cells = cs.toArray) (k : ∀ w' b, SH w0 M K w' (hupd hp i (.blk b cs)) → Grow w w' → w.heap.size ≤ b → WL P ops Q rest n (updo env d (.pointer (some ⟨b, 0, none⟩))) w') : WL P ops Q (⟨d, .box T x, ty, pos, af, none⟩ :: rest) n env w :=
  wl_ok (by rw [r_box hx, hv]) (k _ _ (h.newB i cs T) (Grow.alloc _ _) (Nat.le_refl _))
theorem w_st1G {z : Value} {b o : Nat} {cs : List Value} (h : SH w0 M K w hp) (i : Nat) (cs' : List Value) (hi : hp i = .blk b cs) (hT : One P T z) (hx : ev n env x = .pointer (some ⟨b, o, none⟩)) (hy : ev n env y = v) (ho : cs.set o v = cs') (hl : Nat.blt o cs.length = true) (hv : v.oneCell' = true)
    (k : ∀ w', SH w0 M K w' (hupd hp i (.blk b cs')) → Keep (fun x => x = b) w w' → WL P ops Q rest n (updo env d undef) w') :
    WL P ops Q (⟨d, .store T x y, ty, pos, af, none⟩ :: rest) n env w := by
  obtain ⟨E, hb⟩ := h.blkAt i hi
  have := h.putB i hi cs' E
  subst ho
  have h2 := r_store1 (d := d) (ty := ty) (pos := pos) (af := af) (g := none) hT hx hb (by rw [Nat.blt_eq] at hl; simpa using hl) hy hv
  refine wl_skip h2 (k _ ?_ (Keep.putb _ _ _))
  simpa using this
theorem w_stNG {zs vs : List Value} {b o : Nat} {cs : List Value} (h : SH w0 M K w hp) (i : Nat) (cs' : List Value) (hi : hp i = .blk b cs) (hT : Many P T zs) (hx : ev n env x = .pointer (some ⟨b, o, none⟩)) (hy : ev n env y = .agg vs.toArray) (hl : vs.length = zs.length) (ho : spl cs o vs = cs') (hb : Nat.ble (o + vs.length) cs.length = true) (hv : ∀ v ∈ vs, v.oneCell' = true)
    (k : ∀ w', SH w0 M K w' (hupd hp i (.blk b cs')) → Keep (fun x => x = b) w w' → WL P ops Q rest n (updo env d undef) w') :
    WL P ops Q (⟨d, .store T x y, ty, pos, af, none⟩ :: rest) n env w := by
  obtain ⟨E, hb'⟩ := h.blkAt i hi
  subst ho
  exact wl_skip (r_storeN hT hx hb' hy hl (Nat.le_of_ble_eq_true hb) hv) (k _ (h.putB i hi _ E) (Keep.putb _ _ _))
theorem w_appGN {α : Type} {R : Rep α} {E : TypeId} {sz bytes : Nat} {u : Value} {l m : List α} (h : SH w0 M K w hp) (i : Nat) (hi : hp i = .own R E v l) (hu : Rd2 R w BE (SH.A M hp) u m) (hT : ElemOf P T E sz bytes) (hs : R.sz = sz) (hx : ev n env x = v) (hy : ev n env y = u)
    (hb : (l.length + m.length) * bytes ≤ 140737488355328) (hm : l.length + m.length ≤ 9223372036854775807)
    (k : ∀ w' v', SH w0 M K w' (hupd hp i (.own R E v' (l ++ m))) → Keep (ob v) w w' → (∀ b, ob v' b → b < w.heap.size → ob v b) → WL P ops Q rest n (updo env d v') w') :
    WL P ops Q (⟨d, .call { callee := .builtin .append, args := #[x, y], argTypes := #[T, T] }, ty, pos, af, none⟩ :: rest) n env w := by
  obtain ⟨v', w', h1, h2, h3, h4⟩ := run_app (d := d) (ty := ty) (pos := pos) (af := af) (g := none) hT hs hx (h.ownAt i hi) hy hu (fun b hb => .inr ⟨i, by rw [hi]; exact hb⟩) hb hm
  refine wl_ok h1 (k w' v' (h.step i h3 (fun b hb _ => by rw [hi]; exact hb) (fun b hb hl => by rw [hi]; exact h4 b hb hl) ?_) h3 h4)
  refine OwnSl.go h2 (Keep.refl BE w') (fun _ h => h.elim) (fun _ h => h.elim) (fun b hb _ => ?_)
  rcases hb with hb | hb | hb
  · exact .inl (.inl hb)
  · exact .inl (.inr (rest_all hb))
  · exact .inr hb
theorem w_appSN {E u : TypeId} {l s : Str} (h : SH w0 M K w hp) (i : Nat) (hi : hp i = .own rByte E v l) (hT : ElemOf P T E 1 1) (hz : One P E (.int .u8 0)) (hu : P.underlying u = some .string) (hx : ev n env x = v) (hy : ev n env y = strV s)
    (hb : (l.length + s.length) * 1 ≤ 140737488355328) (hm : l.length + s.length ≤ 9223372036854775807)
    (k : ∀ w' v', SH w0 M K w' (hupd hp i (.own rByte E v' (l ++ s))) → Keep (ob v) w w' → (∀ b, ob v' b → b < w.heap.size → ob v b) → WL P ops Q rest n (updo env d v') w') :
    WL P ops Q (⟨d, .call { callee := .builtin .append, args := #[x, y], argTypes := #[T, u] }, ty, pos, af, none⟩ :: rest) n env w := by
  obtain ⟨v', w', h1, h2, h3, h4⟩ := run_appS (d := d) (ty := ty) (pos := pos) (af := af) (g := none) hT hz hu hx (h.giveO i hi) hy hb hm
  exact wl_ok h1 (k w' v' (h.given i hi h2 h3 h4) h3 h4)
theorem fin_ct {fn : Func} {R : Ending → World → Prop} {u a : Tmp} {T : TypeId} {v2 : Value} {zs vs : List Value} {b : Nat} (hr : fn.results = #[.cell a T, .tmp u]) (ha : ev n env (.tmp a) = .pointer (some ⟨b, 0, none⟩)) (h2 : ev n env (.tmp u) = v2)
    (h0 : SH w0 M K w hp) (i : Nat) (hi : hp i = .blk b vs) (hT : Many P T zs) (hl : vs.length = zs.length) (h : R (.returned (.tuple #[.agg vs.toArray, v2])) w) : bodyPost P fn R .ret (act n env) w := by
  refine ⟨rfl, _, ?_, h⟩
  have e2 := congrFun (act_eval n env) (.tmp u)
  have e3 := congrFun (act_eval n env) (.tmp a)
  rw [h2] at e2
  rw [ha] at e3
  simp only [Act.eval] at e2 e3
  rw [Array.getD_eq_getD_getElem?] at e2 e3
  have hl2 := run_loadVarN (P := P) h0 hi hT hl rfl
  unfold results
  rw [hr]
  simp [e2, e3, asAddr, hl2]
theorem fin_ctt {fn : Func} {R : Ending → World → Prop} {t u a : Tmp} {T : TypeId} {v2 v3 : Value} {zs vs : List Value} {b : Nat} (hr : fn.results = #[.cell a T, .tmp t, .tmp u]) (ha : ev n env (.tmp a) = .pointer (some ⟨b, 0, none⟩)) (h1 : ev n env (.tmp t) = v2) (h2 : ev n env (.tmp u) = v3)
    (h0 : SH w0 M K w hp) (i : Nat) (hi : hp i = .blk b vs) (hT : Many P T zs) (hl : vs.length = zs.length) (h : R (.returned (.tuple #[.agg vs.toArray, v2, v3])) w) : bodyPost P fn R .ret (act n env) w := by
  refine ⟨rfl, _, ?_, h⟩
  have e1 := congrFun (act_eval n env) (.tmp t)
  have e2 := congrFun (act_eval n env) (.tmp u)
  have e3 := congrFun (act_eval n env) (.tmp a)
  rw [h1] at e1
  rw [h2] at e2
  rw [ha] at e3
  simp only [Act.eval] at e1 e2 e3
  rw [Array.getD_eq_getD_getElem?] at e1 e2 e3
  have hl2 := run_loadVarN (P := P) h0 hi hT hl rfl
  unfold results
  rw [hr]
  simp [e1, e2, e3, asAddr, hl2]
theorem fin3 {fn : Func} {R : Ending → World → Prop} {t u a : Tmp} {v1 v2 v3 : Value} (hr : fn.results = #[.tmp t, .tmp u, .tmp a]) (h1 : ev n env (.tmp t) = v1) (h2 : ev n env (.tmp u) = v2) (h3 : ev n env (.tmp a) = v3) (h : R (.returned (.tuple #[v1, v2, v3])) w) : bodyPost P fn R .ret (act n env) w := by
  refine ⟨rfl, _, ?_, h⟩
  have e1 := congrFun (act_eval n env) (.tmp t)
  have e2 := congrFun (act_eval n env) (.tmp u)
  have e3 := congrFun (act_eval n env) (.tmp a)
  rw [h1] at e1
  rw [h2] at e2
  rw [h3] at e3
  simp only [Act.eval] at e1 e2 e3
  rw [Array.getD_eq_getD_getElem?] at e1 e2 e3
  unfold results
  rw [hr]
  simp [e1, e2, e3]
theorem At.grow {b o : Nat} {cs : List Value} (h : At w b o cs) (hk : Grow w w') : At w' b o cs := by
  obtain ⟨cells, E, fz, h1, h2⟩ := h
  exact ⟨cells, E, fz, hk.blk h1, h2⟩
theorem whk_base {L : BS} {ws : World} (hg : Keep L ws w) (h : WHK P ops L w Q fuel listed n env w) : WHK P ops L ws Q fuel listed n env w := ⟨held_weak (fun _ h => hg.same h) _ _ _ _ h.out⟩
/-- What is new stays new. -/
theorem still_new {ws w : World} {v u : Value} (hz : ws.heap.size ≤ w.heap.size) (hv : ∀ b, ob v b → ws.heap.size ≤ b) (hn : ∀ b, ob u b → b < w.heap.size → ob v b) : ∀ b, ob u b → ws.heap.size ≤ b :=
  fun b hb => Nat.le_of_not_lt fun hl => Nat.not_lt_of_le (hv b (hn b hb (Nat.lt_of_lt_of_le hl hz))) hl
/-- An effect that is ready: what is owed for it. -/
def EffOk (P : Program) (ops : Array Oper) (Q1 : Nat → Exit → Act → World → Prop) (n : Nat) (env : Nat → Value) (w : World) (i : Nat) : Prop :=
  ∃ d op ty pos af g, ops[i]? = some ⟨d, op, ty, pos, af, g⟩ ∧ Region.wanted ⟨d, op, ty, pos, af, g⟩ (yielded ops (act n env).tmps) = true ∧ WL P ops (Q1 i) [⟨d, op, ty, pos, af, none⟩] n env w
theorem eff_ok {Q1 : Nat → Exit → Act → World → Prop} (i : Nat) (hi : ops[i]? = some ⟨d, op, ty, pos, af, g⟩) (hw : Region.wanted ⟨d, op, ty, pos, af, g⟩ (yielded ops (act n env).tmps) = true) (h : WL P ops (Q1 i) [⟨d, op, ty, pos, af, none⟩] n env w) : EffOk P ops Q1 n env w i := ⟨_, _, _, _, _, _, hi, hw, h⟩
def EffAll (P : Program) (ops : Array Oper) (Q1 : Nat → Exit → Act → World → Prop) (n : Nat) (env : Nat → Value) (w : World) : List Nat → Prop
  | [] => True
  | i :: r => EffOk P ops Q1 n env w i ∧ EffAll P ops Q1 n env w r
theorem effAll_mem {Q1 : Nat → Exit → Act → World → Prop} : ∀ {l : List Nat}, EffAll P ops Q1 n env w l → ∀ k ∈ l, EffOk P ops Q1 n env w k
  | i :: r, ⟨h1, h2⟩, k, hk => by
    rcases List.mem_cons.1 hk with rfl | hk
    · exact h1
    · exact effAll_mem h2 k hk
theorem wh_effs {ws : World} (l : List Nat) (hr : Region.ready .any ops listed = l) (hl : l ≠ [])
    (h : EffAll P ops (fun i => after P ops ws Q fuel (listed.setIfInBounds i true)) n env w l) : WH P ops ws Q (fuel + 1) listed n env w := by
  refine ⟨wpAnyH_all hr hl (fun k hk => ?_)⟩
  obtain ⟨d, op, ty, pos, af, g, h1, h2, h3⟩ := effAll_mem h k hk
  exact op_of_wl h1 h2 h3
theorem whk_effs {L : BS} {ws : World} (l : List Nat) (hr : Region.ready .any ops listed = l) (hl : l ≠ [])
    (h : EffAll P ops (fun i => afterK P ops L ws Q fuel (listed.setIfInBounds i true)) n env w l) : WHK P ops L ws Q (fuel + 1) listed n env w := by
  refine ⟨wpAnyH_all hr hl (fun k hk => ?_)⟩
  obtain ⟨d, op, ty, pos, af, g, h1, h2, h3⟩ := effAll_mem h k hk
  exact op_of_wl h1 h2 h3
end
end Go.LX

namespace Go.LX
open Go.RowKit Go.ChangeShapes
/-- A reading, and what its data keep to. -/
def andR {α : Type} (R : Rep α) (W : α → Prop) : Rep α where
  sz := R.sz
  rd w A cs x := R.rd w A cs x ∧ W x
  len := fun h => R.len h.1
  one := fun h => R.one h.1
  pos := R.pos
  go := fun h hk hK hA => ⟨R.go h.1 hk hK hA, h.2⟩
theorem rdSl_and {α : Type} {R : Rep α} {W : α → Prop} {w : World} {A : BS} {v : Value} {l : List α} (h : RdSl (andR R W) w A v l) : RdSl R w A v l ∧ ∀ x ∈ l, W x := by
  obtain ⟨a, cap, rfl, h1, h2, h3, h4⟩ := h
  refine ⟨⟨a, cap, rfl, h1, h2, h3, fun i hi => ?_⟩, fun x hx => ?_⟩
  · obtain ⟨b, o, cells, E, fz, e1, e2, e3, e4⟩ := h4 i hi
    exact ⟨b, o, cells, E, fz, e1, e2, e3, e4.1⟩
  · obtain ⟨i, hi, rfl⟩ := List.mem_iff_getElem.1 hx
    obtain ⟨b, o, cells, E, fz, e1, e2, e3, e4⟩ := h4 i hi
    exact e4.2
theorem opens_intW {P : Program} {T : TypeId} (ht : P.underlying T = some (.int .i64)) : Opens P T (andR rInt I64) := by
  intro H enc w spare held fuel cs x h
  obtain ⟨n, rfl, _, hw⟩ := DataW.trod_int ht h
  simp only [Lit.wf, Bool.and_eq_true, decide_eq_true_eq] at hw
  exact ⟨n, rfl, (show (-9223372036854775808 : Int) ≤ n ∧ n ≤ 9223372036854775807 from hw)⟩
theorem opens_byte {P : Program} {T : TypeId} (ht : P.underlying T = some (.int .u8)) : Opens P T rByte := by
  intro H enc w spare held fuel cs x h
  obtain ⟨n, rfl, _, hw⟩ := DataW.trod_int ht h
  simp only [Lit.wf, Bool.and_eq_true, decide_eq_true_eq] at hw
  have h1 : 0 ≤ n := hw.1
  have h2 : n ≤ 255 := hw.2
  refine ⟨UInt8.ofNat n.toNat, ?_⟩
  show [Value.int .u8 n] = [.int .u8 ((UInt8.ofNat n.toNat).toNat : Int)]
  have : (UInt8.ofNat n.toNat).toNat = n.toNat := by
    have e : n.toNat % 256 = n.toNat := Nat.mod_eq_of_lt (by omega)
    simpa [UInt8.toNat_ofNat'] using e
  rw [this, Int.toNat_of_nonneg h1]
theorem opens_str {P : Program} {T : TypeId} (ht : P.underlying T = some .string) : Opens P T rStr := by
  intro H enc w spare held fuel cs x h
  obtain ⟨s, rfl, _, _⟩ := DataW.trod_string ht h
  exact ⟨s.data.toList, by show [Value.string s] = [strV s.data.toList]; simp [strV]⟩
theorem str_of_rd {w : World} {A : BS} {s : ByteArray} {l : Str} (h : rStr.rd w A [Value.string s] l) : s = ⟨l.toArray⟩ := by
  have h2 : [Value.string s] = [strV l] := h
  simpa [strV] using h2
/-- A call that is handed what a row lists, and the world's shape. -/
theorem returns_laid {H : Type} {enc : TypeId × Value → H} {a : Assume} {C : Checked} {os : Os} {f : FuncId} {fn : Func} {s : ChangeSpec} {conds : List PathCond} {apart fresh handsOn again : Bool} {X : World → Array Value → Prop}
    (hX : ∀ (w w' : World) (args : Array Value), w.heap = w'.heap → X w args → X w' args)
    (own : ownKnob C.prog.godebug = none) (started : os.Started) (noInit : C.prog.inits.idxOf? f = none) (hfn : C.prog.funcs[f]? = some fn)
    (witness : ∃ (w : World) (tape : Tape) (i : Input), w.os = os ∧ (w.forCall tape i).Shaped C.prog ∧ i.vars = [] ∧ Input.okWide C.prog (w.forCall tape i) .any w.heap.size f i ∧
      ((s.pre enc C.prog fn conds apart (w.forCall tape i).memory i.args ∧ X (w.forCall tape i).memory i.args) ∧ sizedMet enc C.prog fn (OpenSpec.ofChange s) apart (w.forCall tape i).memory i.args) ∧ a.holds C.prog (lone (Frame.enter C.prog f i.args .normal) [] (w.forCall tape i)))
    (contract : ∀ (W : World) (base : Nat) (args : Array Value) (ds gs : List (DataW H)) (before : List MemPlace),
      (∀ (j : Nat) t v, fn.params[j]? = some t → args[j]? = some v → Value.okWide C.prog W .any base t v) →
      DataW.Whole enc C.prog fn.params.toList s.vars apart W args.toList ds gs before →
      conds.all (PathCond.test C.prog ⟨fn.params.toList, ds, s.plain.varTypes C.prog, gs⟩) = true → X W args → W.ShapedOpen C.prog →
      Calls C.prog f args W fun e W' => ∃ v, e = .returned v ∧ s.post enc C.prog fn apart fresh handsOn again W args v W') :
    ReturnsInHanded a C os f .any (fun w args => (s.pre enc C.prog fn conds apart w args ∧ X w args) ∧ sizedMet enc C.prog fn (OpenSpec.ofChange s) apart w args) (s.post enc C.prog fn apart fresh handsOn again) := by
  refine returnsInHanded_of_calls own started noInit witness ?_
  intro w tape i _ hsh _ hok hpre _
  obtain ⟨_, _, _, fn', hfn', _, _, _, _, hval⟩ := hok
  have e : fn' = fn := Option.some.inj (hfn'.symm.trans hfn)
  subst e
  obtain ⟨⟨⟨ds, gs, before, hw, hc⟩, hx⟩, _⟩ := hpre
  have hw' := DataW.Whole.of_heap (w' := w.forCall tape i) (by rfl) hw
  refine (contract (w.forCall tape i) w.heap.size i.args ds gs before hval hw' hc (hX _ _ _ (by rfl) hx) hsh).mono fun e W' ⟨v, he, hp⟩ => ?_
  subst he
  exact ChangeSpec.post_blind hp
/-- A world, with a pinned table laid in block g. -/
def laidIn (w : World) (g : Nat) (tab : Array Value) : World :=
  { w with heap := w.heap.modify g fun | .cells _ t fz => .cells tab t fz | o => o }
def tabCells : DataW Unit → Array Value
  | .agg l => (l.map fun | .lit (.int k z) => Value.int k z | _ => Value.nilIface).toArray
  | _ => #[]
end Go.LX

namespace Go.LX
structure Disk where
  safe : List UInt8
  wait : List UInt8
deriving DecidableEq
def rDisk : Rep Disk where
  sz := 2
  rd w A cs x := ∃ vsafe, ∃ vwait, cs = [vsafe, vwait] ∧ RdSl rByte w A vsafe x.safe ∧ RdSl rByte w A vwait x.wait
  len := by rintro w A cs x ⟨vsafe, vwait, rfl, h0, h1⟩; rfl
  one := by rintro w A cs x ⟨vsafe, vwait, rfl, h0, h1⟩ u hu; simp only [List.mem_cons, List.not_mem_nil, or_false] at hu; rcases hu with rfl | rfl <;> first | rfl | exact h0.one | exact h1.one
  pos := by decide
  go := by rintro w A cs x w2 A2 K ⟨vsafe, vwait, rfl, h0, h1⟩ hk hK hA; exact ⟨_, _, rfl, h0.go hk hK hA, h1.go hk hK hA⟩
theorem rDisk_open {w : World} {A : BS} {cs : List Value} {x : Disk} (h : rDisk.rd w A cs x) : ∃ vsafe, ∃ vwait, cs = [vsafe, vwait] ∧ RdSl rByte w A vsafe x.safe ∧ RdSl rByte w A vwait x.wait := h
end Go.LX

namespace Go.LX
/-! ### numerals -/
theorem puint_app (acc : Nat) (c : UInt8) : ∀ (l : Str), Lib.parseUint10 acc (l ++ [c]) = match Lib.parseUint10 acc l with | .ok m => Lib.parseUint10 m [c] | e => e := by
  intro l
  induction l generalizing acc with
  | nil => simp [Lib.parseUint10]
  | cons b r ih =>
    simp only [List.cons_append, Lib.parseUint10]
    split
    · split
      · rfl
      · split
        · rfl
        · rw [ih]; rfl
    · rfl
theorem dig_nat {k : Nat} (h : k < 10) : (UInt8.ofNat (48 + k)).toNat = 48 + k := by
  have : (48 + k) % 256 = 48 + k := Nat.mod_eq_of_lt (by omega)
  simpa [UInt8.toNat_ofNat'] using this
theorem puint_dec : ∀ (u : Nat), u < 18446744073709551616 → Lib.parseUint10 0 (Lib.decDigits u) = .ok u := by
  intro u
  induction u using Nat.strongRecOn with
  | ind u ih =>
    intro hu
    rw [Lib.decDigits]
    split
    · rename_i h
      simp only [Lib.parseUint10]
      rw [dig_nat h, if_pos (by omega), if_neg (by omega), if_neg (by omega)]
      congr 1; omega
    · rename_i h
      have hm : u % 10 < 10 := Nat.mod_lt _ (by decide)
      rw [puint_app, ih (u / 10) (by omega) (by omega)]
      simp only [Lib.parseUint10]
      rw [dig_nat hm, if_pos (by omega), if_neg (by omega), if_neg (by omega)]
      congr 1; omega
theorem dec_head : ∀ (u : Nat), ∃ c r, Lib.decDigits u = c :: r ∧ 48 ≤ c.toNat ∧ c.toNat ≤ 57 := by
  intro u
  induction u using Nat.strongRecOn with
  | ind u ih =>
    rw [Lib.decDigits]
    split
    · rename_i h
      exact ⟨_, [], rfl, by rw [dig_nat h]; omega, by rw [dig_nat h]; omega⟩
    · rename_i h
      obtain ⟨c, r, h1, h2, h3⟩ := ih (u / 10) (by omega)
      exact ⟨c, r ++ [UInt8.ofNat (48 + u % 10)], by rw [h1]; rfl, h2, h3⟩
theorem dec_chars : ∀ (u : Nat), ∀ c ∈ Lib.decDigits u, 48 ≤ c.toNat ∧ c.toNat ≤ 57 := by
  intro u
  induction u using Nat.strongRecOn with
  | ind u ih =>
    rw [Lib.decDigits]
    split
    · rename_i h
      intro c hc
      simp only [List.mem_singleton] at hc
      subst hc
      rw [dig_nat h]; omega
    · rename_i h
      have hm : u % 10 < 10 := Nat.mod_lt _ (by decide)
      intro c hc
      rcases List.mem_append.1 hc with hc | hc
      · exact ih (u / 10) (by omega) c hc
      · simp only [List.mem_singleton] at hc
        subst hc
        rw [dig_nat hm]; omega
theorem itoa_chars (n : Int) : ∀ c ∈ Lib.itoa n, 45 ≤ c.toNat ∧ c.toNat ≤ 57 := by
  intro c hc
  unfold Lib.itoa at hc
  split at hc
  · rcases List.mem_cons.1 hc with rfl | hc
    · decide
    · have := dec_chars _ c hc; omega
  · have := dec_chars _ c hc; omega
theorem itoa_free {n : Int} {c : UInt8} (h : c.toNat < 45) : c ∉ Lib.itoa n := fun hc => by have := itoa_chars n c hc; omega
theorem mag_dec {u : Nat} (h : u < 18446744073709551616) : Lib.parseMag (Lib.decDigits u) = .ok u := by
  obtain ⟨c, r, h1, _, _⟩ := dec_head u
  unfold Lib.parseMag
  rw [if_neg (by rw [h1]; simp), puint_dec u h]
theorem atoi_itoa {n : Int} (h : I64 n) : Lib.atoiAll (Lib.itoa n) = .ok n := by
  obtain ⟨h1, h2⟩ := h
  unfold Lib.itoa
  split
  · rename_i hn
    unfold Lib.atoiAll
    simp only
    rw [if_pos (.inr (by decide)), mag_dec (by omega)]
    simp only
    rw [if_neg (by simp), if_neg (by omega)]
    simp
    omega
  · rename_i hn
    obtain ⟨c, r, e, h3, h4⟩ := dec_head n.toNat
    rw [e]
    unfold Lib.atoiAll
    simp only
    rw [if_neg (by omega), ← e, mag_dec (by omega)]
    simp only
    rw [if_neg (by omega), if_neg (by omega), if_neg (by omega)]
    congr 1; omega
theorem itoa_inj {m n : Int} (hm : I64 m) (hn : I64 n) (h : Lib.itoa m = Lib.itoa n) : m = n := by
  have h1 := atoi_itoa hm
  rw [h, atoi_itoa hn] at h1
  injection h1 with h1
  exact h1.symm
/-- The number that a text spells just as it is printed. -/
def numOf (w : Str) : Option Int := match Lib.atoiAll w with | .ok v => if Lib.itoa v = w then some v else none | _ => none
theorem numOf_itoa {n : Int} (h : I64 n) : numOf (Lib.itoa n) = some n := by simp [numOf, atoi_itoa h]
theorem numOf_some {w : Str} {n : Int} (h : numOf w = some n) : w = Lib.itoa n ∧ I64 n := by
  unfold numOf at h
  cases e : Lib.atoiAll w with
  | ok v =>
    rw [e] at h
    simp only at h
    split at h
    · rename_i e2
      cases h
      have := Lib.atoiAll_bounds e
      exact ⟨e2.symm, this⟩
    · cases h
  | _ => rw [e] at h; cases h
theorem itoa_len {n : Int} (h : I64 n) : (Lib.itoa n).length ≤ 21 := Lib.itoa_length_le n h.1 h.2
/-! ### texts, cut at a byte -/
def splitC (c : UInt8) : Str → List Str
  | [] => [[]]
  | b :: r => if b = c then [] :: splitC c r else match splitC c r with | x :: xs => (b :: x) :: xs | [] => [[b]]
theorem splitC_ne (c : UInt8) : ∀ (s : Str), splitC c s ≠ []
  | [] => by simp [splitC]
  | b :: r => by
    unfold splitC
    split
    · simp
    · split <;> simp
theorem splitC_free {c : UInt8} : ∀ {x : Str}, c ∉ x → splitC c x = [x]
  | [], _ => rfl
  | b :: r, h => by
    have h1 : ¬ b = c := fun e => h (by rw [e]; exact List.mem_cons_self)
    rw [splitC, if_neg h1, splitC_free (x := r) (fun e => h (List.mem_cons_of_mem _ e))]
theorem splitC_app {c : UInt8} {r : Str} : ∀ {x : Str}, c ∉ x → splitC c (x ++ c :: r) = x :: splitC c r
  | [], _ => by simp [splitC]
  | b :: x, h => by
    have h1 : ¬ b = c := fun e => h (by rw [e]; exact List.mem_cons_self)
    rw [List.cons_append, splitC, if_neg h1, splitC_app (x := x) (fun e => h (List.mem_cons_of_mem _ e))]
theorem idx1 (c : UInt8) : ∀ (s : Str), (Lib.index s [c] = -1 ∧ c ∉ s) ∨ ∃ x r, s = x ++ c :: r ∧ c ∉ x ∧ Lib.index s [c] = x.length
  | [] => by left; exact ⟨by simp [Lib.index], by simp⟩
  | b :: l => by
    by_cases h : b = c
    · subst h
      right
      exact ⟨[], l, rfl, by simp, by simp [Lib.index, List.isPrefixOf]⟩
    · have h' : ¬ c = b := fun e => h e.symm
      have hp : List.isPrefixOf [c] (b :: l) = false := by simp [List.isPrefixOf, h']
      rcases idx1 c l with ⟨h1, h2⟩ | ⟨x, r, h1, h2, h3⟩
      · left
        refine ⟨by rw [Lib.index, hp, h1]; simp, ?_⟩
        simp [h2, h']
      · right
        refine ⟨b :: x, r, by rw [h1]; rfl, by simp [h2, h'], ?_⟩
        have : ¬ (Lib.index l [c] == -1) = true := by rw [h3]; simp
        rw [Lib.index, hp, if_neg (by simp), if_neg this, h3]
        simp
theorem splitK_C (c : UInt8) : ∀ (k : Nat) (s : Str), Lib.count s [c] = k → Lib.splitK [c] 0 k s = splitC c s := by
  intro k
  induction k with
  | zero =>
    intro s hs
    rcases idx1 c s with ⟨h1, h2⟩ | ⟨x, r, h1, h2, h3⟩
    · rw [splitC_free h2]; rfl
    · rw [Lib.count_hit (by simp) h3] at hs; omega
  | succ k ih =>
    intro s hs
    rcases idx1 c s with ⟨h1, h2⟩ | ⟨x, r, h1, h2, h3⟩
    · rw [Lib.count_miss h1] at hs; omega
    · have hm : ¬ (Lib.index s [c] == -1) = true := by rw [h3]; simp
      rw [Lib.count_hit (by simp) h3] at hs
      have hd : s.drop (x.length + [c].length) = r := by rw [h1]; simp
      rw [Lib.splitK, if_neg hm, h3]
      simp only [Int.toNat_natCast, Nat.add_zero]
      rw [hd] at hs ⊢
      rw [ih r (by omega), h1, splitC_app h2, List.take_left]
theorem split_C (c : UInt8) (s : Str) : Lib.split s [c] = splitC c s := splitK_C c _ s rfl
def joinC (c : UInt8) (l : List Str) : Str := Lib.join l [c]
theorem joinC_one (c : UInt8) (x : Str) : joinC c [x] = x := Lib.join_one x [c]
theorem joinC_cons (c : UInt8) (x y : Str) (l : List Str) : joinC c (x :: y :: l) = x ++ c :: joinC c (y :: l) := by
  unfold joinC
  rw [Lib.join_cons, Lib.join_cons]
  simp [Lib.joinTail]
theorem join_splitC (c : UInt8) : ∀ (s : Str), joinC c (splitC c s) = s
  | [] => joinC_one c []
  | b :: r => by
    have ih := join_splitC c r
    unfold splitC
    split
    · rename_i h
      subst h
      cases e : splitC b r with
      | nil => exact absurd e (splitC_ne b r)
      | cons y l => rw [joinC_cons, ← e, ih]; rfl
    · split
      · rename_i x xs e
        rw [e] at ih
        cases xs with
        | nil => rw [joinC_one] at ih ⊢; rw [ih]
        | cons y l => rw [joinC_cons] at ih ⊢; rw [List.cons_append, ih]
      · rename_i e
        exact absurd e (splitC_ne c r)
theorem split_joinC (c : UInt8) : ∀ (l : List Str), l ≠ [] → (∀ x ∈ l, c ∉ x) → splitC c (joinC c l) = l
  | [], h, _ => absurd rfl h
  | [x], _, h => by rw [joinC_one]; exact splitC_free (h x (by simp))
  | x :: y :: l, _, h => by
    rw [joinC_cons, splitC_app (h x (by simp)), split_joinC c (y :: l) (by simp) (fun z hz => h z (List.mem_cons_of_mem _ hz))]
theorem splitC_len (c : UInt8) : ∀ (s : Str), (splitC c s).length ≤ s.length + 1
  | [] => by simp [splitC]
  | b :: r => by
    have ih := splitC_len c r
    unfold splitC
    split
    · simp; omega
    · split
      · rename_i x xs e; rw [e] at ih; simp at ih ⊢; omega
      · simp
theorem splitC_mem (c : UInt8) : ∀ (s x : Str), x ∈ splitC c s → x.length ≤ s.length ∧ c ∉ x
  | [], x, h => by simp [splitC] at h; subst h; simp
  | b :: r, x, h => by
    unfold splitC at h
    split at h
    · rcases List.mem_cons.1 h with rfl | h
      · simp
      · have := splitC_mem c r x h; exact ⟨by simp; omega, this.2⟩
    · rename_i hb
      split at h
      · rename_i y ys e
        rcases List.mem_cons.1 h with rfl | h
        · have := splitC_mem c r y (by rw [e]; exact List.mem_cons_self)
          refine ⟨by simp; exact this.1, ?_⟩
          intro hc
          rcases List.mem_cons.1 hc with hc | hc
          · exact hb hc.symm
          · exact this.2 hc
        · have := splitC_mem c r x (by rw [e]; exact List.mem_cons_of_mem _ h); exact ⟨by simp; omega, this.2⟩
      · rename_i e
        exact absurd e (splitC_ne c r)
theorem joinC_len (c : UInt8) (m : Nat) : ∀ (l : List Str), (∀ x ∈ l, x.length ≤ m) → (joinC c l).length ≤ l.length * (m + 1)
  | [], _ => by simp [joinC, Lib.join_nil]
  | [x], h => by rw [joinC_one]; have := h x (by simp); simp; omega
  | x :: y :: l, h => by
    have h1 := h x (by simp)
    have h2 := joinC_len c m (y :: l) (fun z hz => h z (List.mem_cons_of_mem _ hz))
    rw [joinC_cons, List.length_append, List.length_cons, List.length_cons, Nat.succ_mul]
    omega
/-- The numbers of a text, a byte between. -/
def numsC (c : UInt8) (s : Str) : Option (List Int) := (splitC c s).mapM numOf
theorem mapM_num_of {l : List Int} (h : ∀ x ∈ l, I64 x) : (l.map Lib.itoa).mapM numOf = some l := by
  induction l with
  | nil => rfl
  | cons x l ih =>
    rw [List.map_cons, List.mapM_cons, numOf_itoa (h x (by simp)), ih (fun y hy => h y (List.mem_cons_of_mem _ hy))]
    rfl
theorem mapM_num_some : ∀ {w : List Str} {l : List Int}, w.mapM numOf = some l → w = l.map Lib.itoa ∧ ∀ x ∈ l, I64 x
  | [], l, h => by cases h; exact ⟨rfl, by simp⟩
  | x :: w, l, h => by
    rw [List.mapM_cons] at h
    cases e : numOf x with
    | none => rw [e] at h; cases h
    | some v =>
      rw [e] at h
      cases e2 : w.mapM numOf with
      | none => rw [e2] at h; cases h
      | some m =>
        rw [e2] at h
        cases h
        obtain ⟨h1, h2⟩ := mapM_num_some e2
        obtain ⟨h3, h4⟩ := numOf_some e
        refine ⟨by rw [List.map_cons, ← h1, ← h3], ?_⟩
        intro y hy
        rcases List.mem_cons.1 hy with rfl | hy
        · exact h4
        · exact h2 y hy
theorem nums_join {c : UInt8} (hc : c.toNat < 45) {l : List Int} (hl : l ≠ []) (h : ∀ x ∈ l, I64 x) : numsC c (joinC c (l.map Lib.itoa)) = some l := by
  unfold numsC
  rw [split_joinC c _ (by simpa using hl) (by intro x hx; obtain ⟨y, _, rfl⟩ := List.mem_map.1 hx; exact itoa_free hc)]
  exact mapM_num_of h
theorem join_nums {c : UInt8} {s : Str} {l : List Int} (h : numsC c s = some l) : s = joinC c (l.map Lib.itoa) ∧ (∀ x ∈ l, I64 x) ∧ l ≠ [] := by
  obtain ⟨h1, h2⟩ := mapM_num_some h
  refine ⟨by rw [← h1, join_splitC], h2, ?_⟩
  rintro rfl
  exact splitC_ne c s h1
theorem nums_inj {c : UInt8} (hc : c.toNat < 45) {l m : List Int} (hl : l ≠ []) (hm : m ≠ []) (h : ∀ x ∈ l, I64 x) (h' : ∀ x ∈ m, I64 x) (e : joinC c (l.map Lib.itoa) = joinC c (m.map Lib.itoa)) : l = m := by
  have h1 := nums_join hc hl h
  rw [e, nums_join hc hm h'] at h1
  exact (Option.some.inj h1).symm
/-! ### what the library's functions answer -/
theorem itoaS_eq {n : Int} (h : I64 n) : itoaS n = some (Lib.itoa n) := by unfold itoaS; rw [grd_t h]
theorem atoiS_eq {w : Str} (h : w.length ≤ 281474976710656) : atoiS w = some (match Lib.atoiAll w with | .ok v => (v, false) | .range => (Lib.atoiSat w, true) | _ => (0, true)) := by unfold atoiS; rw [grd_t h]; all_goals (cases Lib.atoiAll w <;> rfl)
theorem parseS_eq {w : Str} (h : w.length ≤ 281474976710656) : parseS w = some (match Lib.atoiAll w with | .ok v => (v, false) | .range => (Lib.intSat 64 w, true) | _ => (0, true)) := by unfold parseS; rw [grd_t h, Lib.parseIntB_64]; all_goals (cases Lib.atoiAll w <;> rfl)
theorem splitS_eq {s : Str} (c : UInt8) (h : s.length < 4294967281) : splitS s [c] = some (splitC c s) := by unfold splitS; rw [grd_t ⟨h, Nat.le_refl _⟩, split_C]
theorem joinS_eq {l : List Str} (c : UInt8) (h : l.length ≤ 140737488355328) (h' : (joinC c l).length ≤ 140737488355328) : joinS l [c] = some (joinC c l) := by unfold joinS; rw [grd_t ⟨h, h'⟩]; rfl
end Go.LX
