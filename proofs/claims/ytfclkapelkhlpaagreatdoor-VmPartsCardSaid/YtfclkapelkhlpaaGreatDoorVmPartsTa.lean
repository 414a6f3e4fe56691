/-
  What the law VmParts needs of our own library and of the walks, no more.
-/
import Derived.WalkKit
import Derived.Laws.StructEq
import Derived.ChangeKeysEq
import Derived.StillTail
import Derived.LoopN
import Derived.Deep.Quiet
import Derived.OrdersHeld
import Derived.Deep.RegionHeld3
import Derived.Deep.Slices
import Derived.MapKept
import Derived.Lib.Bytealg
import Derived.ChangeArms
import Derived.Lib.AppendZeros
import Derived.Lib.Overlaps
import Derived.Laws.CopyRow
import Derived.Shelf.SlSortCmp.SmallK
import Derived.Laws.Pointers
import Derived.Laws.OwnMore
import Derived.Laws.Concat
import Derived.Laws.Strings2
import Derived.Laws.Strings3
import Derived.Laws.IdiomStrings
import Derived.Lib.AppendStr
import Derived.Lib.ConvBytes
import Derived.Lib.LaidTab
import Derived.Lib.ItoaNum
import Derived.WideLaws
import Derived.Lib.SplitLaws
import Derived.Lib.JoinLaws
import Derived.Lib.AtoiAll
import Derived.Lib.ParseIntB
import Derived.Laws.NewFold
import Derived.Lib.Join
import Derived.Lib.Strings
import Derived.Sort.Grow
import Derived.Lib.Space
import Derived.Handed
import Derived.LaidMore
import Derived.LaidHandle
import Derived.Stop.LaidErr
import Derived.Shelf.Vars
import Derived.WideShapes
import Derived.Lib.ParseIntBTie
import Derived.Lib.ItoaLen
import Derived.Lib.AtoiAllCases
import Derived.Shelf.Strings.Builder1
set_option linter.unusedSimpArgs false
set_option linter.unusedVariables false
set_option maxRecDepth 10000
namespace Go.LX
open Go.RowKit
def act (n : Nat) (env : Nat → Value) : Act := { tmps := Array.ofFn (n := n) fun i => env i.val, defers := [] }
def upd (env : Nat → Value) (d : Nat) (v : Value) : Nat → Value := fun i => bif Nat.beq i d then v else env i
def ev (n : Nat) (env : Nat → Value) : Operand → Value
  | .tmp t => bif Nat.blt t n then env t else undef
  | .const v => v
  | .global g => .pointer (some ⟨g, 0, none⟩)
  | .func f => .func (.func f) #[] #[]
def jJ (env : Nat → Value) : Option Nat → Value → (Nat → Value)
  | some d, v => upd env d v
  | none, _ => env
theorem gD (n : Nat) (env : Nat → Value) : (act n env).eval = ev n env := by
  funext x
  cases x with
  | tmp t =>
    by_cases h : t < n
    · have hb : Nat.blt t n = true := by rw [Nat.blt_eq]; exact h
      simp [Act.eval, act, ev, h, hb]
    · have hb : Nat.blt t n = false := by rw [Bool.eq_false_iff, ne_eq, Nat.blt_eq]; exact h
      simp [Act.eval, act, ev, h, hb]
  | _ => rfl
theorem vv (n : Nat) (env : Nat → Value) (d : Option Nat) (v : Value) : (act n env).put d v = act n (jJ env d v) := by
  cases d with
  | none => rfl
  | some d =>
    simp only [Act.put, act, jJ, Act.mk.injEq, and_true]
    apply Array.ext
    · simp
    · intro i h1 h2
      simp at h1
      have h3 : i < (Array.ofFn (n := n) fun i => env i.val).size := by simp; exact h1
      rw [Array.getElem_setIfInBounds h3]
      by_cases hd : d = i
      · subst hd; simp [upd, Nat.beq_refl]
      · have hb : Nat.beq i d = false := by rw [Bool.eq_false_iff]; intro h; exact hd (Nat.eq_of_beq_eq_true h).symm
        simp [hd, upd, hb]
def GV (args : List Value) : Nat → Value := fun i => args.getD i undef
theorem UF (n : Nat) (args : List Value) (h : args.length ≤ n) : ({ tmps := args.toArray ++ Array.replicate (n - args.toArray.size) undef, defers := [] } : Act) = act n (GV args) := by
  simp only [act, Act.mk.injEq, and_true]
  apply Array.ext
  · simp; omega
  · intro i h1 h2
    simp [Array.getElem_append, GV, List.getD]
    by_cases hi : i < args.length
    · simp [hi]
    · simp [hi]
end Go.LX
namespace Go.LX
open Go.RowKit
structure WL (P : Program) (ops : Array Oper) (Q : Exit → Act → World → Prop) (l : List Oper) (n : Nat) (env : Nat → Value) (w : World) : Prop where
  out : wpList P ops Q l (act n env) w
structure WC (P : Program) (c : Code) (Q : Exit → Act → World → Prop) (n : Nat) (env : Nat → Value) (w : World) : Prop where
  out : c.wp P Q (act n env) w
section
variable {P : Program} {ops : Array Oper} {Q : Exit → Act → World → Prop} {n : Nat} {env : Nat → Value} {w w' : World} {rest : List Oper}
  {d : Option Nat} {op : Op} {ty : TypeId} {pos : String} {af : Array Edge} {v : Value} {g : Option (Nat × Bool)}
theorem aa (hr : (execOp (ev n env) ⟨d, op, ty, pos, af, none⟩).run P w = .ok (.value v) w') (h : WL P ops Q rest n (jJ env d v) w') :
    WL P ops Q (⟨d, op, ty, pos, af, none⟩ :: rest) n env w := by
  refine ⟨wpList_plain rfl fun K hK => ?_⟩
  unfold Oper.wp
  rw [gD, hr]
  show K _ _
  rw [vv]
  exact hK _ _ h.out
theorem tJ (hr : (execOp (ev n env) ⟨d, op, ty, pos, af, none⟩).run P w = .ok .skip w') (h : WL P ops Q rest n (jJ env d undef) w') :
    WL P ops Q (⟨d, op, ty, pos, af, none⟩ :: rest) n env w := by
  refine ⟨wpList_plain rfl fun K hK => ?_⟩
  unfold Oper.wp
  rw [gD, hr]
  show K _ _
  rw [vv]
  exact hK _ _ h.out
theorem UG {f : FuncId} {args : Array Value} {R : Ending → World → Prop} (hr : (execOp (ev n env) ⟨d, op, ty, pos, af, none⟩).run P w = .ok (.enter f args) w) (hc : Calls P f args w R)
    (h : ∀ e w', R e w' → ∃ v, e = .returned v ∧ WL P ops Q rest n (jJ env d v) w') :
    WL P ops Q (⟨d, op, ty, pos, af, none⟩ :: rest) n env w := by
  refine ⟨wpList_plain rfl fun K hK => ?_⟩
  unfold Oper.wp
  rw [gD, hr]
  show Calls P f args w _
  refine hc.mono fun e w' he => ?_
  obtain ⟨v, rfl, hv⟩ := h e w' he
  show K _ _
  rw [vv]
  exact hK _ _ hv.out
theorem uP {j dj : Nat} {b : Bool} (hd : (ops[j]?).bind (·.dst) = some dj) (hv : ev n env (.tmp dj) = .bool b) : yielded ops (act n env).tmps j = some b := by
  unfold yielded
  have h1 : (act n env).eval (.tmp dj) = .bool b := by rw [gD]; exact hv
  simp only [hd, Option.bind_some]
  simp only [Act.eval] at h1
  cases h2 : (act n env).tmps[dj]? with
  | none => simp [Array.getD_eq_getD_getElem?, h2, undef] at h1
  | some x => simp [Array.getD_eq_getD_getElem?, h2] at h1; subst h1; rfl
theorem dH {j dj : Nat} {b : Bool} (hd : (ops[j]?).bind (·.dst) = some dj) (hv : ev n env (.tmp dj) = .bool b)
    (h : WL P ops Q (⟨d, op, ty, pos, af, none⟩ :: rest) n env w) : WL P ops Q (⟨d, op, ty, pos, af, some (j, b)⟩ :: rest) n env w := by
  have hy := uP (ops := ops) hd hv
  have hw : Region.wanted ⟨d, op, ty, pos, af, some (j, b)⟩ (yielded ops (act n env).tmps) = true := by simp [Region.wanted, hy]
  have hw0 : Region.wanted ⟨d, op, ty, pos, af, none⟩ (yielded ops (act n env).tmps) = true := rfl
  obtain ⟨h⟩ := h
  refine ⟨?_⟩
  unfold wpList at h ⊢
  rw [if_pos hw0] at h
  rw [if_pos hw]
  exact h
theorem gy {j dj : Nat} {b b' : Bool} (hd : (ops[j]?).bind (·.dst) = some dj) (hv : ev n env (.tmp dj) = .bool b') (hb : (b' == b) = false)
    (h : WL P ops Q rest n (jJ env d undef) w) : WL P ops Q (⟨d, op, ty, pos, af, some (j, b)⟩ :: rest) n env w := by
  have hy := uP (ops := ops) hd hv
  have hw : Region.wanted ⟨d, op, ty, pos, af, some (j, b)⟩ (yielded ops (act n env).tmps) = false := by simpa [Region.wanted, hy] using hb
  refine ⟨?_⟩
  unfold wpList
  rw [if_neg (by rw [hw]; decide), vv]
  exact h.out
theorem az (h : Q .normal (act n env) w) : WL P ops Q [] n env w := ⟨h⟩
end
section
variable {P : Program} {Q : Exit → Act → World → Prop} {n : Nat} {env : Nat → Value} {w : World} {x y : Code}
theorem aC {id : Nat} {l : List Oper} (h : WL P l.toArray Q l n env w) : WC P (Code.region id l.toArray false) Q n env w := ⟨wp_region_lit h.out⟩
theorem aP (h : WC P x (Exit.then (y.wp P Q) Q) n env w) : WC P (Code.seq x y) Q n env w := ⟨wp_seq h.out⟩
theorem aO {id : Nat} (h : WC P x (Exit.inBlock id Q) n env w) : WC P (Code.block id x) Q n env w := ⟨wp_block h.out⟩
theorem aF (h : Q .normal (act n env) w) : WC P .skip Q n env w := ⟨wp_skip h⟩
theorem tK (h : Q .ret (act n env) w) : WC P .ret Q n env w := ⟨wp_ret h⟩
theorem gV {id : Nat} (h : Q (.exit id) (act n env) w) : WC P (.exit id) Q n env w := ⟨wp_exit h⟩
theorem iE {c : Operand} {t : Bool} (hc : ev n env c = .bool t) (h1 : t = true → WC P x Q n env w) (h2 : t = false → WC P y Q n env w) :
    WC P (Code.cond c x y) Q n env w := ⟨wp_cond_split (by rw [gD]; exact hc) (fun h => (h1 h).out) (fun h => (h2 h).out)⟩
theorem ZN {c : Operand} (hc : ev n env c = .bool true) (h1 : WC P x Q n env w) : WC P (Code.cond c x y) Q n env w := ⟨wp_cond_true (by rw [gD]; exact hc) h1.out⟩
theorem ZO {c : Operand} (hc : ev n env c = .bool false) (h1 : WC P y Q n env w) : WC P (Code.cond c x y) Q n env w := ⟨wp_cond_false (by rw [gD]; exact hc) h1.out⟩
theorem ak {Q' : Exit → Act → World → Prop} (h : WC P y Q n env w) : Exit.then (y.wp P Q) Q' .normal (act n env) w := h.out
def Q6 (mod : Nat → Bool) (dx entry : Nat → Value) : Nat → Value := fun i => bif mod i then dx i else entry i
def J9 (e : Nat → Value) : List (Nat × Value) → Nat → Value
  | [] => e
  | (i, v) :: r => upd (J9 e r) i v
def Holds (e : Nat → Value) : List (Nat × Value) → Prop
  | [] => True
  | (i, v) :: r => e i = v ∧ Holds e r
def yl (mod : Nat → Bool) (e entry : Nat → Value) : Prop := ∀ i, mod i = false → e i = entry i
theorem yl.refl (mod : Nat → Bool) (e : Nat → Value) : yl mod e e := fun _ _ => rfl
theorem yl.Q6 (mod : Nat → Bool) (j e : Nat → Value) : yl mod (Q6 mod j e) e := fun i h => by simp [LX.Q6, h]
theorem yl.upd {mod : Nat → Bool} {e entry : Nat → Value} {d : Nat} {v : Value} (hd : mod d = true) (h : yl mod e entry) : yl mod (upd e d v) entry := fun i hi => by
  have : i ≠ d := fun e => by rw [e, hd] at hi; exact Bool.noConfusion hi
  have hb : Nat.beq i d = false := by rw [Bool.eq_false_iff]; intro h; exact this (Nat.eq_of_beq_eq_true h)
  simp [LX.upd, hb, h i hi]
theorem UH (e : Nat → Value) {i : Nat} {v : Value} (h : e i = v) : upd e i v = e := by
  funext k
  by_cases hk : Nat.beq k i = true
  · have := Nat.eq_of_beq_eq_true hk; subst this; simp [upd, h]
  · simp [upd, hk]
theorem Nc {mod : Nat → Bool} {e entry : Nat → Value} (h : yl mod e entry) : Q6 mod e entry = e := by
  funext i
  cases hm : mod i with
  | true => simp [Q6, hm]
  | false => simp [Q6, hm, h i hm]
theorem Fh {e : Nat → Value} : ∀ (l : List (Nat × Value)), Holds e l → J9 e l = e
  | [], _ => rfl
  | (i, v) :: r, h => by
    show upd (J9 e r) i v = e
    rw [Fh r h.2]
    exact UH e h.1
theorem XL {σ : Type} {c : Code} (mod : Nat → Bool) (live : σ → List (Nat × Value)) (J : σ → World → Prop) (μ : σ → Nat) (s0 : σ)
    (hl : Holds env (live s0)) (hJ : J s0 w)
    (round : ∀ s wr dx, J s wr → WC P c (Exit.then (fun a' w' => ∃ s' e', a' = act n e' ∧ yl mod e' env ∧ Holds e' (live s') ∧ J s' w' ∧ μ s' < μ s) Q) n (J9 (Q6 mod dx env) (live s)) wr) :
    WC P (Code.loop c) Q n env w := by
  refine ⟨?_⟩
  intro b k cs
  have key : ∀ m s e w, μ s = m → yl mod e env → Holds e (live s) → J s w →
      ∃ ex a' w', Q ex a' w' ∧ Arrives P (lone (b.at (act n e) (.code c :: .inLoop c :: k)) cs w) b k cs ex a' w' := by
    intro m
    induction m using Nat.strongRecOn with
    | _ m ih =>
      intro s e w hm hA hH hj
      have hr := (round s w e hj).out
      have hee : J9 (Q6 mod e env) (live s) = e := by rw [Nc hA]; exact Fh _ hH
      rw [hee] at hr
      obtain ⟨ex, a₁, w₁, hq, harr⟩ := hr b (.inLoop c :: k) cs
      cases ex with
      | normal =>
        obtain ⟨s', e', rfl, hA', hH', hJ', hlt⟩ := hq
        obtain ⟨e₂, a₂, w₂, hq₂, harr₂⟩ := ih (μ s') (hm ▸ hlt) s' e' w₁ rfl hA' hH' hJ'
        exact ⟨e₂, a₂, w₂, hq₂, .of_steps (Steps.trans harr (.one step_inLoop)) harr₂⟩
      | exit id => exact ⟨_, a₁, w₁, hq, .pass (x := .inLoop c) rfl (fun _ _ => .inl (by simp)) harr⟩
      | goto l => exact ⟨_, a₁, w₁, hq, .pass (x := .inLoop c) rfl (fun _ _ => .inl (by simp)) harr⟩
      | ret => exact ⟨_, a₁, w₁, hq, .pass (x := .inLoop c) rfl (fun _ _ => .inl (by simp)) harr⟩
      | panic ch => exact ⟨_, a₁, w₁, hq, .pass (x := .inLoop c) rfl (fun _ _ => .inl (by simp)) harr⟩
      | outgrown => exact ⟨_, a₁, w₁, hq, .pass (x := .inLoop c) rfl (fun _ _ => .inl (by simp)) harr⟩
  obtain ⟨ex, a', w', hq, harr⟩ := key _ s0 env w rfl (yl.refl _ _) hl hJ
  exact ⟨ex, a', w', hq, .of_steps (.one step_loop) harr⟩
end
end Go.LX
namespace Go.LX
open Go.RowKit
structure One (P : Program) (T : TypeId) (z : Value) : Prop where
  desc : ∃ d, P.underlying T = some d ∧ (match d with | .struct _ | .array _ _ => False | _ => True)
  info : (P.info? T).map (fun i => (i.zero, i.size)) = some (some z, 1)
  cell : z.cells = #[z]
structure wJ (P : Program) (T : TypeId) (zs : List Value) : Prop where
  desc : ∃ d, P.underlying T = some d ∧ (match d with | .struct _ | .array _ _ => True | _ => False)
  info : (P.info? T).map (fun i => (i.zero, i.size)) = some (some (.agg zs.toArray), zs.length)
structure SliceOf (P : Program) (T E : TypeId) (sz : Nat) : Prop where
  desc : P.underlying T = some (.slice E)
  info : (P.info? E).map (·.size) = some sz
structure fH (P : Program) (T : TypeId) (k off : Nat) : Prop where
  desc : ∃ fs f s, P.underlying T = some (.struct fs) ∧ fs[k]? = some f ∧ f.offset = off ∧ (P.info? f.type).map (·.size) = some (s + 1)
section
variable {P : Program} {w : World} {ρ : Operand → Value} {d : Option Nat} {ty : TypeId} {pos : String} {af : Array Edge} {g : Option (Nat × Bool)}
theorem ag {x : Operand} {v : Value} (hx : ρ x = v) : (execOp ρ ⟨d, .move x, ty, pos, af, g⟩).run P w = .ok (.value v) w := by subst hx; rfl
theorem ae {x : Operand} {v : Value} (hx : ρ x = v) : (execOp ρ ⟨d, .assign x, ty, pos, af, g⟩).run P w = .ok (.value v) w := by subst hx; rfl
theorem dn {c x y : Operand} {b : Bool} {v : Value} (hc : ρ c = .bool b) (hv : (if b then ρ x else ρ y) = v) : (execOp ρ ⟨d, .pick c x y, ty, pos, af, g⟩).run P w = .ok (.value v) w := by
  subst hv; simp [execOp, hc, asBool]
theorem r_not {x : Operand} {T : TypeId} {b : Bool} (hx : ρ x = .bool b) : (execOp ρ ⟨d, .unOp .not T x, ty, pos, af, g⟩).run P w = .ok (.value (.bool !b)) w := by
  simp [execOp, hx, Op.unary]
theorem LJ {x : Int} (h1 : -9223372036854775808 ≤ x) (h2 : x ≤ 9223372036854775807) : IntKind.i64.wrap x = x := IntWalk.i64_in x ⟨h1, h2⟩
theorem dP {x y : Operand} {T T2 : TypeId} {p q : Int} (hx : ρ x = .int .i64 p) (hy : ρ y = .int .i64 q) : (execOp ρ ⟨d, .binOp .lss T x y T2, ty, pos, af, g⟩).run P w = .ok (.value (.bool (decide (p < q)))) w := by
  simp [execOp, hx, hy, eqGuard, binOp, Op.intCmp]
theorem Eh {x y : Operand} {T T2 : TypeId} {p q : Int} (hx : ρ x = .int .i64 p) (hy : ρ y = .int .i64 q) : (execOp ρ ⟨d, .binOp .leq T x y T2, ty, pos, af, g⟩).run P w = .ok (.value (.bool (decide (p ≤ q)))) w := by
  simp [execOp, hx, hy, eqGuard, binOp, Op.intCmp]
theorem jT {x y : Operand} {T T2 : TypeId} {p q : Int} (hx : ρ x = .int .i64 p) (hy : ρ y = .int .i64 q) : (execOp ρ ⟨d, .binOp .gtr T x y T2, ty, pos, af, g⟩).run P w = .ok (.value (.bool (decide (q < p)))) w := by
  simp [execOp, hx, hy, eqGuard, binOp, Op.intCmp]
theorem pX {x y : Operand} {T T2 : TypeId} {p q : Int} (hx : ρ x = .int .i64 p) (hy : ρ y = .int .i64 q) : (execOp ρ ⟨d, .binOp .geq T x y T2, ty, pos, af, g⟩).run P w = .ok (.value (.bool (decide (q ≤ p)))) w := by
  simp [execOp, hx, hy, eqGuard, binOp, Op.intCmp]
theorem bz {x y : Operand} {T T2 : TypeId} {p q : Int} {k : IntKind} (hx : ρ x = .int k p) (hy : ρ y = .int k q) : (execOp ρ ⟨d, .binOp .eql T x y T2, ty, pos, af, g⟩).run P w = .ok (.value (.bool (decide (p = q)))) w := by
  simp [execOp, hx, hy, eqGuard, binOp, Op.intCmp]; rfl
theorem gN {x y : Operand} {T T2 : TypeId} {p q : Int} {k : IntKind} (hx : ρ x = .int k p) (hy : ρ y = .int k q) : (execOp ρ ⟨d, .binOp .neq T x y T2, ty, pos, af, g⟩).run P w = .ok (.value (.bool (decide (p ≠ q)))) w := by
  simp [execOp, hx, hy, eqGuard, binOp, Op.intCmp]; rfl
theorem dw {x y : Operand} {T T2 : TypeId} {p q : Int} (hx : ρ x = .int .i64 p) (hy : ρ y = .int .i64 q) (h : -9223372036854775808 ≤ p + q ∧ p + q ≤ 9223372036854775807) :
    (execOp ρ ⟨d, .binOp .add T x y T2, ty, pos, af, g⟩).run P w = .ok (.value (.int .i64 (p + q))) w := by
  simp [execOp, hx, hy, eqGuard, binOp, Op.intArith, LJ h.1 h.2]
theorem mZ {x y : Operand} {T T2 : TypeId} {p q : Int} (hx : ρ x = .int .i64 p) (hy : ρ y = .int .i64 q) (h : -9223372036854775808 ≤ p - q ∧ p - q ≤ 9223372036854775807) :
    (execOp ρ ⟨d, .binOp .sub T x y T2, ty, pos, af, g⟩).run P w = .ok (.value (.int .i64 (p - q))) w := by
  simp [execOp, hx, hy, eqGuard, binOp, Op.intArith, LJ h.1 h.2]
theorem Nf {x : Operand} {T E : TypeId} {sz : Nat} {a : Option Addr} {l c : Nat} (hT : SliceOf P T E sz) (hx : ρ x = .slice a l c) :
    (execOp ρ ⟨d, .call { callee := .builtin .len, args := #[x], argTypes := #[T] }, ty, pos, af, g⟩).run P w = .ok (.value (.int .i64 l)) w := by
  simp [execOp, resolve, invoke, builtin, Builtin.len_, hx, underlying, hT.desc, goInt]
theorem Q7 {x : Operand} {T : TypeId} {z v : Value} {b o : Nat} {cs : Array Value} {E : TypeId} {fz : Nat × Nat} (hT : One P T z) (hx : ρ x = .pointer (some ⟨b, o, none⟩)) (hb : w.heap[b]? = some (.cells cs E fz)) (hv : cs[o]? = some v) :
    (execOp ρ ⟨d, .load T x, ty, pos, af, g⟩).run P w = .ok (.value v) w := by
  obtain ⟨dd, hd, hm⟩ := hT.desc
  have hc : w.cell? ⟨b, o, none⟩ = some v := by simp [World.cell?, hb, hv]
  cases dd <;> simp_all [execOp, Instr.loadAt, Instr.sureAddr, loadVar, isAgg, underlying]
end
end Go.LX
namespace Go.LX
open Go.RowKit
abbrev BS := Nat → Prop
abbrev BE : BS := fun _ => False
structure aI (K : BS) (w w' : World) : Prop where
  os : w'.os = w.os
  tape : w'.tape = w.tape
  output : w'.output = w.output
  size : w.heap.size ≤ w'.heap.size
  block : ∀ b, ¬ K b → b < w.heap.size → w'.heap[b]? = w.heap[b]?
abbrev Grow (w w' : World) : Prop := aI BE w w'
theorem aI.refl (K : BS) (w : World) : aI K w w := ⟨rfl, rfl, rfl, Nat.le_refl _, fun _ _ _ => rfl⟩
theorem aI.step {K N : BS} {a b c : World} (h : aI K a b) (k : aI N b c) (hN : ∀ x, N x → x < a.heap.size → K x) : aI K a c :=
  ⟨k.os.trans h.os, k.tape.trans h.tape, k.output.trans h.output, Nat.le_trans h.size k.size, fun i hm hi => (k.block i (fun hn => hm (hN i hn hi)) (Nat.lt_of_lt_of_le hi h.size)).trans (h.block i hm hi)⟩
theorem aI.grow {K : BS} {a b c : World} (h : aI K a b) (k : Grow b c) : aI K a c := h.step k (fun _ h => h.elim)
theorem aI.weaken {K N : BS} {a b : World} (h : aI K a b) (hs : ∀ x, K x → x < a.heap.size → N x) : aI N a b := ⟨h.os, h.tape, h.output, h.size, fun i hm hi => h.block i (fun hn => hm (hs i hn hi)) hi⟩
theorem Grow.keep {K : BS} {a b : World} (h : Grow a b) : aI K a b := h.weaken (fun _ h => h.elim)
theorem gK {w : World} {b : Nat} {o : Obj} (hb : w.heap[b]? = some o) : b < w.heap.size := by
  rcases Nat.lt_or_ge b w.heap.size with h1 | h1
  · exact h1
  · rw [Array.getElem?_eq_none h1] at hb; cases hb
theorem aI.blk {K : BS} {w w' : World} (h : aI K w w') {b : Nat} {o : Obj} (hb : w.heap[b]? = some o) (hm : ¬ K b) : w'.heap[b]? = some o := by
  rw [h.block b hm (gK hb), hb]
theorem Grow.blk {w w' : World} (h : Grow w w') {b : Nat} {o : Obj} (hb : w.heap[b]? = some o) : w'.heap[b]? = some o := aI.blk h hb (fun h => h)
theorem Grow.below {w w' : World} (h : Grow w w') : Below w.heap.size w w' := ⟨h.os, h.tape, h.output, h.size, fun k hk => h.block k (fun h => h) hk⟩
theorem Grow.of_below {w w' : World} (h : Below w.heap.size w w') : Grow w w' := ⟨h.os, h.tape, h.output, h.size, fun k _ hk => h.block k hk⟩
theorem Grow.alloc (w : World) (o : Obj) : Grow w (w.alloc o) := Grow.of_below ((Below.refl _ _).alloc (Nat.le_refl _) o)
theorem Cw (w : World) (o : Obj) : (w.alloc o).heap[w.heap.size]? = some o := by show (w.heap.push o)[w.heap.size]? = some o; simp
theorem Grow.drew (w : World) : Grow w w.drew := ⟨rfl, rfl, rfl, Nat.le_refl _, fun _ _ _ => rfl⟩
theorem Grow.trans {a b c : World} (h : Grow a b) (k : Grow b c) : Grow a c := h.grow k
structure jE (α : Type) where
  sz : Nat
  rd : World → BS → List Value → α → Prop
  len : ∀ {w A cs x}, rd w A cs x → cs.length = sz
  one : ∀ {w A cs x}, rd w A cs x → ∀ u ∈ cs, u.oneCell' = true
  pos : 0 < sz
  go : ∀ {w A cs x w' A' K}, rd w A cs x → aI K w w' → (∀ b, K b → b < w.heap.size → A b) → (∀ b, A' b → b < w.heap.size → A b) → rd w' A' cs x
def gB {α : Type} (R : jE α) (w : World) (B A : BS) (v : Value) (l : List α) : Prop :=
  ∃ a cap, v = .slice a l.length cap ∧ l.length ≤ cap ∧ cap ≤ maxLen ∧ (a = none → cap = 0) ∧
    ∀ i (h : i < l.length), ∃ b o cells E fz, a = some ⟨b, o, none⟩ ∧ ¬ B b ∧ w.heap[b]? = some (.cells cells E fz) ∧ R.rd w A ((cells.toList.drop (o + i * R.sz)).take R.sz) l[i]
abbrev fu {α : Type} (R : jE α) (w : World) (A : BS) (v : Value) (l : List α) : Prop := gB R w A A v l
theorem gB.go {α : Type} {R : jE α} {w w' : World} {B B' A A' K : BS} {v : Value} {l : List α} (h : gB R w B A v l) (hk : aI K w w') (hKB : ∀ b, K b → b < w.heap.size → B b) (hK : ∀ b, K b → b < w.heap.size → A b) (hB : ∀ b, B' b → b < w.heap.size → B b) (hA : ∀ b, A' b → b < w.heap.size → A b) : gB R w' B' A' v l := by
  obtain ⟨a, cap, rfl, h1, h2, h3, h4⟩ := h
  refine ⟨a, cap, rfl, h1, h2, h3, fun i hi => ?_⟩
  obtain ⟨b, o, cells, E, fz, e1, e2, e3, e4⟩ := h4 i hi
  exact ⟨b, o, cells, E, fz, e1, fun h => e2 (hB b h (gK e3)), hk.blk e3 (fun h => e2 (hKB b h (gK e3))), R.go e4 hk hK hA⟩
theorem gB.sub {α : Type} {R : jE α} {w : World} {B B' A A' : BS} {v : Value} {l : List α} (h : gB R w B A v l) (hB : ∀ b, B' b → b < w.heap.size → B b) (hA : ∀ b, A' b → b < w.heap.size → A b) : gB R w B' A' v l :=
  h.go (aI.refl BE w) (fun _ h => h.elim) (fun _ h => h.elim) hB hA
theorem gB.src {α : Type} {R : jE α} {w : World} {B A : BS} {v : Value} {l : List α} (h : gB R w B A v l) : gB R w BE A v l := h.sub (fun _ h => h.elim) (fun _ h _ => h)
theorem fu.go {α : Type} {R : jE α} {w w' : World} {A A' K : BS} {v : Value} {l : List α} (h : fu R w A v l) (hk : aI K w w') (hK : ∀ b, K b → b < w.heap.size → A b) (hA : ∀ b, A' b → b < w.heap.size → A b) : fu R w' A' v l :=
  gB.go h hk hK hK hA hA
theorem gB.one {α : Type} {R : jE α} {w : World} {B A : BS} {v : Value} {l : List α} (h : gB R w B A v l) : v.oneCell' = true := by
  obtain ⟨a, cap, rfl, _⟩ := h
  rfl
theorem gB.nil {α : Type} {R : jE α} {w : World} {B A : BS} : gB R w B A (.slice none 0 0) ([] : List α) := ⟨none, 0, rfl, Nat.le_refl _, by unfold maxLen; omega, fun _ => rfl, fun i hi => absurd hi (Nat.not_lt_zero _)⟩
theorem gB.bV {α : Type} {R : jE α} {w : World} {B A : BS} {v : Value} {l : List α} (h : gB R w B A v l) : l.length ≤ 9223372036854775807 := by
  obtain ⟨a, cap, _, h1, h2, _⟩ := h
  unfold maxLen at h2
  omega
def mP {α : Type} (R : jE α) : jE (List α) where
  sz := 1
  rd w A cs l := ∃ v, cs = [v] ∧ fu R w A v l
  len := by rintro w A cs x ⟨v, rfl, _⟩; rfl
  one := by
    rintro w A cs x ⟨v, rfl, h⟩ u hu
    simp at hu; subst hu; exact h.one
  pos := by decide
  go := by
    rintro w A cs x w' A' K ⟨v, rfl, h⟩ hk hK hA
    exact ⟨v, rfl, h.go hk hK hA⟩
def dU : jE Int where
  sz := 1
  rd _ _ cs x := cs = [.int .i64 x]
  len := by rintro w A cs x rfl; rfl
  one := by rintro w A cs x rfl u hu; simp at hu; subst hu; rfl
  pos := by decide
  go := fun h _ _ _ => h
abbrev Str := List UInt8
def aV (s : Str) : Value := .string ⟨s.toArray⟩
def nY : jE Str where
  sz := 1
  rd _ _ cs x := cs = [aV x]
  len := by rintro w A cs x rfl; rfl
  one := by rintro w A cs x rfl u hu; simp at hu; subst hu; rfl
  pos := by decide
  go := fun h _ _ _ => h
def ob : Value → Nat → Prop | .slice (some a) _ _ => fun b => b = a.block | _ => fun _ => False
theorem UI {v : Value} {k : Nat} : ob v k ↔ v.ownBlock = some k := by
  cases v with
  | slice a l c => cases a with
    | none => simp [ob, Value.ownBlock]
    | some a => simp [ob, Value.ownBlock]; exact eq_comm
  | _ => simp [ob, Value.ownBlock]
def dW {α : Type} (R : jE α) (E : TypeId) (w : World) (A : BS) (v : Value) (l : List α) : Prop :=
  ∃ xs, w.ownsRow 0 E R.sz v l.length xs ∧ ∀ i (h : i < l.length), R.rd w (fun b => A b ∨ ob v b) ((xs.drop (i * R.sz)).take R.sz) l[i]
theorem dW.nil {α : Type} {R : jE α} {E : TypeId} {w : World} {A : BS} : dW R E w A (.slice none 0 0) ([] : List α) :=
  ⟨[], World.ownsRow_nil _ _ _ _, fun i h => absurd h (Nat.not_lt_zero _)⟩
theorem dW.lt {α : Type} {R : jE α} {E : TypeId} {w : World} {A : BS} {v : Value} {l : List α} (h : dW R E w A v l) : ∀ k, ob v k → k < w.heap.size := by
  obtain ⟨xs, h1, _⟩ := h
  intro k hk
  exact (h1.lt k (UI.1 hk)).2
theorem dW.go {α : Type} {R : jE α} {E : TypeId} {w w' : World} {A A' K : BS} {v : Value} {l : List α} (h : dW R E w A v l) (hk : aI K w w') (hK : ∀ b, K b → b < w.heap.size → A b) (hKo : ∀ b, K b → ¬ ob v b) (hA : ∀ b, A' b → b < w.heap.size → A b ∨ ob v b) : dW R E w' A' v l := by
  obtain ⟨xs, h1, h3⟩ := h
  refine ⟨xs, ?_, fun i hi => R.go (h3 i hi) hk (fun b h1 h2 => .inl (hK b h1 h2)) (fun b hb hl => ?_)⟩
  · refine ⟨h1.1, ?_⟩
    rcases h1.2 with h | ⟨g, cap, cur, rfl, e1, e2, e3⟩
    · exact .inl h
    · exact .inr ⟨g, cap, cur, rfl, e1, hk.blk e2 (fun h => hKo g h (by simp [ob])), e3⟩
  · rcases hb with hb | hb
    · exact hA b hb hl
    · exact .inr hb
theorem dW.one {α : Type} {R : jE α} {E : TypeId} {w : World} {A : BS} {v : Value} {l : List α} (h : dW R E w A v l) : v.oneCell' = true := by
  obtain ⟨xs, h1, _⟩ := h
  rcases h1.2 with ⟨rfl, _⟩ | ⟨g, cap, cur, rfl, _⟩ <;> rfl
theorem dW.rd {α : Type} {R : jE α} {E : TypeId} {w : World} {A A' : BS} {v : Value} {l : List α} (h : dW R E w A v l) (ha : ∀ b, ob v b → ¬ A' b) (hA : ∀ b, A' b → b < w.heap.size → A b ∨ ob v b) : fu R w A' v l := by
  obtain ⟨xs, h1, h3⟩ := h
  rcases h1.2 with ⟨rfl, hn⟩ | ⟨g, cap, cur, rfl, e1, e2, e3, e4, e5, e6⟩
  · have : l = [] := List.eq_nil_of_length_eq_zero hn
    subst this
    exact gB.nil
  · refine ⟨some ⟨g, 0, none⟩, cap, rfl, e3, e4, (fun h => by cases h), fun i hi => ⟨g, 0, cur, E, (0, 0), rfl, ha g (by simp [ob]), e2, ?_⟩⟩
    have := R.go (A' := A') (h3 i hi) (aI.refl BE w) (fun _ h => h.elim) hA
    rw [← e6, List.drop_take, List.take_take, Nat.min_eq_left ?_] at this
    · rw [Nat.zero_add]; exact this
    · have : (i + 1) * R.sz ≤ l.length * R.sz := Nat.mul_le_mul_right _ hi
      rw [Nat.add_mul] at this
      omega
def Ak (es : Array MapEntry) (clock : Nat) : Prop := (∀ e ∈ es.toList, e.born < clock) ∧ (es.toList.map (·.born)).Nodup
def wV (w : World) (b : Nat) (fK : List (Int × Value)) : Prop :=
  ∃ es clock, w.heap[b]? = some (.map es clock) ∧ es.toList.map (fun e => (e.key, e.val)) = fK.map (fun p => (Value.int .i64 p.1, p.2)) ∧ Ak es clock
structure Pce where
  own : BS
  P : World → BS → Prop
  lt : ∀ {w A b}, P w A → own b → b < w.heap.size
  go : ∀ {w w' A A' K}, P w A → aI K w w' → (∀ b, K b → b < w.heap.size → A b) → (∀ b, K b → ¬ own b) → (∀ b, A' b → b < w.heap.size → A b ∨ own b) → P w' A'
inductive Chunk : Type 1 where
  | no
  | rd {α : Type} (R : jE α) (v : Value) (l : List α)
  | sr {α : Type} (R : jE α) (v : Value) (l : List α)
  | pt (b o : Nat) (cs : List Value)
  | blk (b : Nat) (cs : List Value)
  | own {α : Type} (R : jE α) (E : TypeId) (v : Value) (l : List α)
  | mp (b : Nat) (fK : List (Int × Value))
  | rp {α : Type} (R : jE α) (v : Value) (x : α)
  | two (a b : Chunk)
  | gZ (S : Pce)
def Chunk.own' : Chunk → BS
  | .blk b _ => fun x => x = b
  | .own _ _ v _ => ob v
  | .mp b _ => fun x => x = b
  | .two a b => fun x => a.own' x ∨ b.own' x
  | .gZ S => S.own
  | _ => BE
def Chunk.holds (w : World) (M O : BS) : Chunk → Prop
  | .no => True
  | .rd R v l => fu R w (fun b => M b ∨ O b) v l
  | .sr R v l => gB R w O (fun b => M b ∨ O b) v l
  | .pt b o cs => ¬ O b ∧ ∃ cells E fz, w.heap[b]? = some (.cells cells E fz) ∧ (cells.toList.drop o).take cs.length = cs
  | .blk b cs => ∃ E, w.heap[b]? = some (.cells cs.toArray E (0, 0))
  | .own R E v l => dW R E w (fun b => M b ∨ O b) v l
  | .mp b fK => wV w b fK
  | .rp R v x => R.rd w (fun b => M b ∨ O b) [v] x
  | .two a b => a.holds w M O ∧ b.holds w M O ∧ ∀ x, a.own' x → ¬ b.own' x
  | .gZ S => S.P w (fun b => M b ∨ O b)
theorem Chunk.go {c : Chunk} {w w' : World} {M O O' N : BS} (h : c.holds w M O) (hk : aI N w w') (hN : ∀ b, N b → b < w.heap.size → O b) (hNo : ∀ b, N b → ¬ c.own' b) (hO : ∀ b, O' b → b < w.heap.size → M b ∨ O b) (hO2 : ∀ b, O' b → b < w.heap.size → O b) : c.holds w' M O' := by
  induction c with
  | no => trivial
  | rd R v l => exact fu.go h hk (fun b hb hl => .inr (hN b hb hl)) (fun b hb hl => hb.elim .inl (fun hb => hO b hb hl))
  | sr R v l => exact gB.go h hk hN (fun b hb hl => .inr (hN b hb hl)) hO2 (fun b hb hl => hb.elim .inl (fun hb => hO b hb hl))
  | pt b o cs =>
    obtain ⟨h1, cells, E, fz, h2, h3⟩ := h
    exact ⟨fun h => h1 (hO2 b h (gK h2)), cells, E, fz, hk.blk h2 (fun h => h1 (hN b h (gK h2))), h3⟩
  | blk b cs =>
    obtain ⟨E, h⟩ := h
    exact ⟨E, hk.blk h (fun hb => hNo b hb rfl)⟩
  | own R E v l => exact dW.go h hk (fun b hb hl => .inr (hN b hb hl)) hNo (fun b hb hl => .inl (hb.elim .inl (fun hb => hO b hb hl)))
  | rp R v x => exact R.go h hk (fun b hb hl => .inr (hN b hb hl)) (fun b hb hl => hb.elim .inl (fun hb => hO b hb hl))
  | two a b iha ihb => exact ⟨iha h.1 (fun x hx ha => hNo x hx (.inl ha)), ihb h.2.1 (fun x hx hb => hNo x hx (.inr hb)), h.2.2⟩
  | gZ S => exact S.go h hk (fun b hb hl => .inr (hN b hb hl)) hNo (fun b hb hl => .inl (hb.elim .inl (fun hb => hO b hb hl)))
  | mp b fK =>
    obtain ⟨es, c, h, he⟩ := h
    exact ⟨es, c, hk.blk h (fun hb => hNo b hb rfl), he⟩
theorem Chunk.sub {c : Chunk} {w : World} {M O O' : BS} (h : c.holds w M O) (hO : ∀ b, O' b → b < w.heap.size → O b) : c.holds w M O' :=
  Chunk.go h (aI.refl BE w) (fun _ h => h.elim) (fun _ h => h.elim) (fun b hb hl => .inr (hO b hb hl)) hO
theorem Chunk.lt {c : Chunk} {w : World} {M O : BS} (h : c.holds w M O) : ∀ b, c.own' b → b < w.heap.size := by
  intro b hb
  induction c with
  | no => exact hb.elim
  | rd => exact hb.elim
  | sr => exact hb.elim
  | pt => exact hb.elim
  | blk b' cs =>
    cases hb
    exact gK h.choose_spec
  | own R E v l => exact dW.lt h b hb
  | rp => exact hb.elim
  | two a c iha ihc => exact hb.elim (fun hb => iha h.1 hb) (fun hb => ihc h.2.1 hb)
  | gZ S => exact S.lt h hb
  | mp b' fK =>
    cases hb
    obtain ⟨_, _, h, _⟩ := h
    exact gK h
def bH (hp : Nat → Chunk) (i : Nat) (c : Chunk) : Nat → Chunk := fun j => bif Nat.beq j i then c else hp j
theorem bI (hp : Nat → Chunk) (i : Nat) (c : Chunk) : bH hp i c i = c := by simp [bH, Nat.beq_refl]
theorem di {hp : Nat → Chunk} {i j : Nat} {c : Chunk} (h : j ≠ i) : bH hp i c j = hp j := by
  have : Nat.beq j i = false := by rw [Bool.eq_false_iff]; intro e; exact h (Nat.eq_of_beq_eq_true e)
  simp [bH, this]
def hno : Nat → Chunk := fun _ => .no
def eQ (hp : Nat → Chunk) : BS := fun b => ∃ j, (hp j).own' b
structure SH (w0 : World) (M K : BS) (w : World) (hp : Nat → Chunk) : Prop where
  keep : aI K w0 w
  XG : ∀ b, M b → b < w0.heap.size
  Pn : ∀ i b, (hp i).own' b → ¬ M b
  ok : ∀ i, (hp i).holds w M (eQ hp)
  apart : ∀ i j, i ≠ j → ∀ b, (hp i).own' b → ¬ (hp j).own' b
  old : ∀ i b, (hp i).own' b → b < w0.heap.size → K b
section
variable {w0 w w' : World} {M K : BS} {hp : Nat → Chunk} {i : Nat} {c : Chunk}
def rest (hp : Nat → Chunk) (i : Nat) : BS := fun b => ∃ j, j ≠ i ∧ (hp j).own' b
theorem iW {hp : Nat → Chunk} {i b : Nat} (h : rest hp i b) : eQ hp b := let ⟨j, _, h⟩ := h; ⟨j, h⟩
abbrev SH.av (hp : Nat → Chunk) (i : Nat) (c : Chunk) : BS := fun b => rest hp i b ∨ c.own' b
theorem SH.step {N : BS} (h : SH w0 M K w hp) (i : Nat) (hk : aI N w w') (hN : ∀ b, N b → b < w.heap.size → (hp i).own' b)
    (ho : ∀ b, c.own' b → b < w.heap.size → (hp i).own' b) (hc : c.holds w' M (SH.av hp i c)) : SH w0 M K w' (bH hp i c) := by
  have hM : ∀ b, M b → b < w.heap.size := fun b hb => Nat.lt_of_lt_of_le (h.XG b hb) h.keep.size
  have hall : ∀ b, eQ (bH hp i c) b → rest hp i b ∨ c.own' b := by
    rintro b ⟨j, hj⟩
    by_cases e : j = i
    · subst e; rw [bI] at hj; exact .inr hj
    · rw [di e] at hj; exact .inl ⟨j, e, hj⟩
  have Y8 : ∀ b, eQ (bH hp i c) b → b < w.heap.size → eQ hp b := fun b hb hl => (hall b hb).elim iW (fun h => ⟨i, ho b h hl⟩)
  refine ⟨?_, h.XG, ?_, ?_, ?_, ?_⟩
  · exact h.keep.step hk (fun x hx hl => by
      have hl2 := Nat.lt_of_lt_of_le hl h.keep.size
      exact h.old i x (hN x hx hl2) hl)
  · intro j b hb
    by_cases e : j = i
    · subst e
      rw [bI] at hb
      intro hm
      exact h.Pn j b (ho b hb (hM b hm)) hm
    · rw [di e] at hb; exact h.Pn j b hb
  · intro j
    by_cases e : j = i
    · subst e
      rw [bI]
      exact Chunk.sub hc (fun b hb _ => hall b hb)
    · rw [di e]
      have hl := h.ok j
      refine Chunk.go hl (hk.weaken (N := fun b => N b ∧ b < w.heap.size) (fun b hb hl => ⟨hb, hl⟩)) ?_ ?_ ?_ ?_
      · intro b hb hl2
        exact ⟨i, hN b hb.1 hl2⟩
      · intro b hb hj
        exact h.apart j i e b hj (hN b hb.1 hb.2)
      · exact fun b hb hl => .inr (Y8 b hb hl)
      · exact Y8
  · intro j k hjk b hb hb2
    have lt : ∀ x, x ≠ i → (hp x).own' b → b < w.heap.size := fun x _ hx => Chunk.lt (h.ok x) b hx
    by_cases e : j = i
    · subst e
      have e2 : k ≠ j := fun e => hjk e.symm
      rw [bI] at hb
      rw [di e2] at hb2
      exact h.apart j k hjk b (ho b hb (lt k e2 hb2)) hb2
    · rw [di e] at hb
      by_cases e2 : k = i
      · subst e2
        rw [bI] at hb2
        exact h.apart j k hjk b hb (ho b hb2 (lt j e hb))
      · rw [di e2] at hb2
        exact h.apart j k hjk b hb hb2
  · intro j b hb hl
    by_cases e : j = i
    · subst e
      rw [bI] at hb
      exact h.old j b (ho b hb (Nat.lt_of_lt_of_le hl h.keep.size)) hl
    · rw [di e] at hb; exact h.old j b hb hl
abbrev SH.A (M : BS) (hp : Nat → Chunk) : BS := fun b => M b ∨ eQ hp b
theorem SH.lt (h : SH w0 M K w hp) : ∀ b, SH.A M hp b → b < w.heap.size := by
  rintro b (hb | ⟨j, hb⟩)
  · exact Nat.lt_of_lt_of_le (h.XG b hb) h.keep.size
  · exact Chunk.lt (h.ok j) b hb
theorem SH.learn (h : SH w0 M K w hp) (i : Nat) (hk : Grow w w') (ho : ∀ b, c.own' b → w.heap.size ≤ b) (hc : c.holds w' M (fun b => eQ hp b ∨ c.own' b)) : SH w0 M K w' (bH hp i c) :=
  h.step i hk (fun _ h => h.elim) (fun b hb hl => absurd (ho b hb) (by omega)) (Chunk.sub hc (fun b hb _ => hb.imp iW id))
theorem SH.grow (h : SH w0 M K w hp) (hk : Grow w w') : SH w0 M K w' hp :=
  ⟨h.keep.grow hk, h.XG, h.Pn, fun i => Chunk.go (h.ok i) hk (fun _ h => h.elim) (fun _ h => h.elim) (fun b hb _ => .inr hb) (fun b hb _ => hb), h.apart, h.old⟩
theorem SH.know (h : SH w0 M K w hp) (i : Nat) (ho : ∀ b, ¬ c.own' b) (hc : c.holds w M (eQ hp)) : SH w0 M K w (bH hp i c) :=
  h.learn i (aI.refl BE w) (fun b hb => absurd hb (ho b)) (Chunk.sub hc (fun b hb _ => hb.elim id (fun hb => absurd hb (ho b))))
theorem SH.freeze {α : Type} {R : jE α} {E : TypeId} {v : Value} {l : List α} (h : SH w0 M K w hp) (i : Nat) (hi : hp i = .own R E v l) : SH w0 M K w (bH hp i (.rd R v l)) := by
  refine h.step i (aI.refl BE w) (fun _ h => h.elim) (fun b hb => hb.elim) ?_
  have hl := h.ok i
  rw [hi] at hl
  refine dW.rd hl (fun b hb ha => ?_) (fun b hb hl => ?_)
  · have hb2 : (hp i).own' b := by rw [hi]; exact hb
    rcases ha with ha | ⟨j, hj, ha⟩ | ha
    · exact h.Pn i b hb2 ha
    · exact h.apart j i hj b ha hb2
    · exact ha
  · rcases hb with hb | hb | hb
    · exact .inl (.inl hb)
    · exact .inl (.inr (iW hb))
    · exact hb.elim
def hset : List (Nat × Chunk) → Nat → Chunk
  | [] => hno
  | (i, c) :: r => bH (hset r) i c
def LK (hp : Nat → Chunk) : List (Nat × Chunk) → Prop
  | [] => True
  | (i, c) :: r => hp i = c ∧ LK hp r
theorem Q8 {hp : Nat → Chunk} : ∀ {l : List (Nat × Chunk)}, LK hp l → ∀ j, hset l j = hp j ∨ hset l j = .no
  | [], _, _ => .inr rfl
  | (i, c) :: r, h, j => by
    by_cases e : j = i
    · subst e; left; show bH _ _ _ _ = _; rw [bI]; exact h.1.symm
    · show bH _ _ _ _ = _ ∨ bH _ _ _ _ = _
      rw [di e]; exact Q8 h.2 j
theorem SH.canon (h : SH w0 M K w hp) (l : List (Nat × Chunk)) (hl : LK hp l) : SH w0 M K w (hset l) := by
  have key := Q8 hl
  have own : ∀ j b, (hset l j).own' b → (hp j).own' b := by
    intro j b hb
    rcases key j with e | e
    · rw [e] at hb; exact hb
    · rw [e] at hb; exact hb.elim
  refine ⟨h.keep, h.XG, fun i b hb => h.Pn i b (own i b hb), fun i => ?_, fun i j hij b hb hb2 => h.apart i j hij b (own i b hb) (own j b hb2), fun i b hb => h.old i b (own i b hb)⟩
  rcases key i with e | e
  · rw [e]
    exact Chunk.sub (h.ok i) (fun b ⟨j, hj⟩ _ => ⟨j, own j b hj⟩)
  · rw [e]; trivial
theorem SH.init {w : World} {M : BS} (hM : ∀ b, M b → b < w.heap.size) : SH w M BE w hno :=
  ⟨aI.refl _ _, hM, fun _ _ h => h.elim, fun _ => trivial, fun _ _ _ _ h => h.elim, fun _ _ h => h.elim⟩
theorem SH.jO {α : Type} {R : jE α} {E : TypeId} {v : Value} {l : List α} (h : SH w0 M K w hp) (i : Nat) (hk : Grow w w') (ho : dW R E w' (SH.A M hp) v l) (hf : ∀ b, ob v b → w.heap.size ≤ b) : SH w0 M K w' (bH hp i (.own R E v l)) :=
  h.learn i hk hf (dW.go ho (aI.refl BE w') (fun _ h => h.elim) (fun _ h => h.elim) (fun b hb _ => hb.elim (fun h => .inl (.inl h)) (fun h => h.elim (fun h => .inl (.inr h)) .inr)))
theorem SH.Ky {α : Type} {R : jE α} {v : Value} {l : List α} (h : SH w0 M K w hp) (i : Nat) (hk : Grow w w') (ho : fu R w' (SH.A M hp) v l) : SH w0 M K w' (bH hp i (.rd R v l)) :=
  h.learn i hk (fun _ h => h.elim) (fu.go ho (aI.refl BE w') (fun _ h => h.elim) (fun b hb _ => hb.elim .inl (fun h => h.elim .inr (fun h => h.elim))))
theorem SH.bX {α : Type} {R : jE α} {v : Value} {l : List α} (h : SH w0 M K w hp) (i : Nat) (ho : fu R w (SH.A M hp) v l) : SH w0 M K w (bH hp i (.rd R v l)) := h.Ky i (aI.refl BE w) ho
theorem SH.Y9 {α : Type} {R : jE α} {v : Value} {l : List α} (h : SH w0 M K w hp) (i : Nat) (ho : fu R w M v l) (hn : ∀ b, ¬ eQ hp b) : SH w0 M K w (bH hp i (.rd R v l)) :=
  h.bX i (ho.go (aI.refl BE w) (fun _ h => h.elim) (fun b hb _ => hb.elim id (fun h => absurd h (hn b))))
theorem SH.fw {α : Type} {R : jE α} {v : Value} {l : List α} (h : SH w0 M K w hp) (i : Nat) (ho : gB R w BE M v l) (hn : ∀ b, ¬ eQ hp b) : SH w0 M K w (bH hp i (.sr R v l)) :=
  h.know i (fun _ h => h) (ho.sub (fun b hb _ => absurd hb (hn b)) (fun b hb _ => hb.elim id (fun h => absurd h (hn b))))
theorem SH.fo {α : Type} {R : jE α} {v : Value} {l : List α} (h : SH w0 M K w hp) (i : Nat) (hi : hp i = .rd R v l) : fu R w (SH.A M hp) v l := by
  have := h.ok i; rw [hi] at this; exact this
theorem SH.Dr {α : Type} {R : jE α} {v : Value} {l : List α} (h : SH w0 M K w hp) (i : Nat) (hi : hp i = .sr R v l) : gB R w (eQ hp) (SH.A M hp) v l := by
  have := h.ok i; rw [hi] at this; exact this
theorem SH.dD {α : Type} {R : jE α} {E : TypeId} {v : Value} {l : List α} (h : SH w0 M K w hp) (i : Nat) (hi : hp i = .own R E v l) : dW R E w (SH.A M hp) v l := by
  have := h.ok i; rw [hi] at this; exact this
theorem SH.qV {b : Nat} {cs : List Value} (h : SH w0 M K w hp) (i : Nat) (hi : hp i = .blk b cs) : ∃ E, w.heap[b]? = some (.cells cs.toArray E (0, 0)) := by
  have := h.ok i; rw [hi] at this; exact this
theorem SH.ptAt {b o : Nat} {cs : List Value} (h : SH w0 M K w hp) (i : Nat) (hi : hp i = .pt b o cs) : ∃ cells E fz, w.heap[b]? = some (.cells cells E fz) ∧ (cells.toList.drop o).take cs.length = cs := by
  have := h.ok i; rw [hi] at this; exact this.2
theorem SH.Po {b : Nat} {es : List (Int × Value)} (h : SH w0 M K w hp) (i : Nat) (hi : hp i = .mp b es) : wV w b es := by
  have := h.ok i; rw [hi] at this; exact this
theorem SH.grown (h : SH w0 M BE w hp) : Grow w0 w := h.keep
theorem SH.fresh (h : SH w0 M BE w hp) (i : Nat) : ∀ b, (hp i).own' b → w0.heap.size ≤ b := fun b hb => Nat.le_of_not_lt (fun hl => h.old i b hb hl)
theorem SH.mM {α : Type} {R : jE α} {v : Value} {l : List α} (h : SH w0 M K w hp) (i : Nat) (hi : hp i = .rd R v l) : gB R w BE (SH.A M hp) v l := (h.fo i hi).src
theorem SH.gM {α : Type} {R : jE α} {v : Value} {l : List α} (h : SH w0 M K w hp) (i : Nat) (hi : hp i = .sr R v l) : gB R w BE (SH.A M hp) v l := (h.Dr i hi).src
theorem dW.src {α : Type} {R : jE α} {E : TypeId} {w : World} {A : BS} {v : Value} {l : List α} (h : dW R E w A v l) : gB R w BE A v l := by
  obtain ⟨xs, h1, h3⟩ := h
  rcases h1.2 with ⟨rfl, hn⟩ | ⟨g, cap, cur, rfl, e1, e2, e3, e4, e5, e6⟩
  · have : l = [] := List.eq_nil_of_length_eq_zero hn
    subst this
    exact gB.nil
  · refine ⟨some ⟨g, 0, none⟩, cap, rfl, e3, e4, (fun h => by cases h), fun i hi => ⟨g, 0, cur, E, (0, 0), rfl, fun h => h, e2, ?_⟩⟩
    have := R.go (A' := A) (h3 i hi) (aI.refl BE w) (fun _ h => h.elim) (fun b hb _ => .inl hb)
    rw [← e6, List.drop_take, List.take_take, Nat.min_eq_left ?_] at this
    · rw [Nat.zero_add]; exact this
    · have : (i + 1) * R.sz ≤ l.length * R.sz := Nat.mul_le_mul_right _ hi
      rw [Nat.add_mul] at this
      omega
theorem SH.dV {α : Type} {R : jE α} {E : TypeId} {v : Value} {l : List α} (h : SH w0 M K w hp) (i : Nat) (hi : hp i = .own R E v l) : gB R w BE (SH.A M hp) v l := (h.dD i hi).src
theorem bC : ∀ b, ¬ eQ hno b := fun _ ⟨_, h⟩ => h
theorem vJ {α : Type} {R : jE α} {v : Value} {l : List α} {i : Nat} (h : ∀ b, ¬ eQ hp b) : ∀ b, ¬ eQ (bH hp i (.rd R v l)) b := by
  rintro b ⟨j, hj⟩
  by_cases e : j = i
  · subst e; rw [bI] at hj; exact hj
  · rw [di e] at hj; exact h b ⟨j, hj⟩
theorem cZ {α : Type} {R : jE α} {v : Value} {l : List α} {i : Nat} (h : ∀ b, ¬ eQ hp b) : ∀ b, ¬ eQ (bH hp i (.sr R v l)) b := by
  rintro b ⟨j, hj⟩
  by_cases e : j = i
  · subst e; rw [bI] at hj; exact hj
  · rw [di e] at hj; exact h b ⟨j, hj⟩
end
end Go.LX
namespace Go.LX
open Go.RowKit
def gv (c : Bool) (v : Value) : Value := (bif c then [v] else []).headD undef
theorem dz {c : Bool} {v : Value} (h : c = true) : gv c v = v := by rw [h]; rfl
theorem gl {a b : Bool} (h : (a && b) = true) : a = true := by cases a <;> simp_all
theorem gr {a b : Bool} (h : (a && b) = true) : b = true := by cases a <;> simp_all
structure oh (P : Program) (T E : TypeId) (sz bytes : Nat) : Prop where
  desc : P.underlying T = some (.slice E)
  info : ∃ i z, P.info? E = some i ∧ i.zero = some z ∧ i.size = sz ∧ i.bytes = bytes ∧ z.cells.size = sz
theorem Ei {P : Program} {T : TypeId} {z : Option Value} {s : Nat} (h : (P.info? T).map (fun i => (i.zero, i.size)) = some (z, s)) : ∃ i, P.info? T = some i ∧ i.zero = z ∧ i.size = s := by
  cases hi : P.info? T with
  | none => simp [hi] at h
  | some i => simp [hi] at h; exact ⟨i, rfl, h.1, h.2⟩
def qW (w : World) (b : Nat) (o : Obj) : World := { w with heap := w.heap.setIfInBounds b o }
theorem tL {w : World} {b : Nat} {o : Obj} (h : b < w.heap.size) : (qW w b o).heap[b]? = some o := by simp [qW, h]
theorem aI.qW (w : World) (b : Nat) (o : Obj) : aI (fun x => x = b) w (qW w b o) :=
  ⟨rfl, rfl, rfl, by simp [LX.qW], fun k hk _ => by
    have : b ≠ k := fun e => hk (by simp [e])
    show (w.heap.setIfInBounds b o)[k]? = _
    rw [Array.getElem?_setIfInBounds_ne this]⟩
theorem LM {w : World} {b o : Nat} {cs : Array Value} {E : TypeId} {fz : Nat × Nat} {v : Value} (hb : w.heap[b]? = some (.cells cs E fz)) : w.setCell ⟨b, o, none⟩ v = qW w b (.cells (cs.setIfInBounds o v) E fz) := by
  simp only [World.setCell, qW]
  congr 1
  have hlt := gK hb
  apply Array.ext_getElem?
  intro i
  simp only [Array.getElem?_modify, Array.getElem?_setIfInBounds]
  by_cases hi : b = i
  · subst hi
    rw [if_pos rfl, if_pos rfl, if_pos hlt, hb]
    rfl
  · simp [hi]
theorem Ng {w : World} {b : Nat} {cs cs' : Array Value} {E : TypeId} {fz : Nat × Nat} (hb : w.heap[b]? = some (.cells cs E fz)) : w.setRow b cs' = qW w b (.cells cs' E fz) := by
  simp only [World.setRow, qW]
  congr 1
  have hlt := gK hb
  apply Array.ext_getElem?
  intro i
  simp only [Array.getElem?_modify, Array.getElem?_setIfInBounds]
  by_cases hi : b = i
  · subst hi
    rw [if_pos rfl, if_pos rfl, if_pos hlt, hb]
    rfl
  · simp [hi]
def Ej (cs : List Value) (o : Nat) (vs : List Value) : List Value := cs.take o ++ vs ++ cs.drop (o + vs.length)
def At (w : World) (b o : Nat) (cs : List Value) : Prop := ∃ cells E fz, w.heap[b]? = some (.cells cells E fz) ∧ (cells.toList.drop o).take cs.length = cs
section
variable {P : Program} {ops : Array Oper} {Q : Exit → Act → World → Prop} {n : Nat} {env : Nat → Value} {w w' w0 : World} {M K : BS} {hp : Nat → Chunk} {rest : List Oper}
  {d : Option Nat} {op : Op} {ty : TypeId} {pos : String} {af : Array Edge} {v : Value} {g : Option (Nat × Bool)} {T : TypeId} {ρ : Operand → Value} {x y : Operand}
theorem mi {j dj : Nat} {b want : Bool} (c0 : Bool) (hd : (ops[j]?).bind (·.dst) = some dj) (hv : ev n env (.tmp dj) = gv c0 (.bool b))
    (hr : (c0 && (b == want)) = true → (execOp (ev n env) ⟨d, op, ty, pos, af, none⟩).run P w = .ok (.value v) w) (h : WL P ops Q rest n (jJ env d (gv (c0 && (b == want)) v)) w) :
    WL P ops Q (⟨d, op, ty, pos, af, some (j, want)⟩ :: rest) n env w := by
  by_cases hc : (c0 && (b == want)) = true
  · have h0 := gl hc
    have h1 := gr hc
    rw [dz h0] at hv
    rw [dz hc] at h
    have hb : b = want := by simpa using h1
    subst hb
    exact dH hd hv (aa (hr hc) h)
  · have hc' : (c0 && (b == want)) = false := by simpa using hc
    rw [hc'] at h
    cases c0 with
    | true =>
      refine gy hd hv ?_ h
      simpa using hc'
    | false =>
      have hu : ev n env (.tmp dj) = undef := hv
      have hy : yielded ops (act n env).tmps j = none := by
        unfold yielded
        have h1 : (act n env).eval (.tmp dj) = undef := by rw [gD]; exact hu
        simp only [hd, Option.bind_some]
        simp only [Act.eval] at h1
        cases h2 : (act n env).tmps[dj]? with
        | none => rfl
        | some x => simp [Array.getD_eq_getD_getElem?, h2] at h1; subst h1; rfl
      have hw : Region.wanted ⟨d, op, ty, pos, af, some (j, want)⟩ (yielded ops (act n env).tmps) = false := by simp [Region.wanted, hy]
      refine ⟨?_⟩
      unfold wpList
      rw [if_neg (by rw [hw]; decide), vv]
      exact h.out
theorem aA {j dj : Nat} {b want : Bool} (hd : (ops[j]?).bind (·.dst) = some dj) (hv : ev n env (.tmp dj) = .bool b)
    (hr : (b == want) = true → (execOp (ev n env) ⟨d, op, ty, pos, af, none⟩).run P w = .ok (.value v) w) (h : WL P ops Q rest n (jJ env d (gv (b == want) v)) w) :
    WL P ops Q (⟨d, op, ty, pos, af, some (j, want)⟩ :: rest) n env w :=
  mi true hd hv (fun h => hr (by simpa using h)) (by simpa using h)
theorem gW {c a : Operand} {b p : Bool} (hc : ρ c = .bool b) (hy : ρ a = gv (b == false) (.bool p)) (hk : ∀ v, ρ (.const v) = v) : (execOp ρ ⟨d, .pick c (.const (.bool true)) a, ty, pos, af, g⟩).run P w = .ok (.value (.bool (b || p))) w := by
  cases b <;> simp_all [execOp, asBool, gv]
theorem fD {c a : Operand} {b p : Bool} (hc : ρ c = .bool b) (hx : ρ a = gv (b == true) (.bool p)) (hk : ∀ v, ρ (.const v) = v) : (execOp ρ ⟨d, .pick c a (.const (.bool false)), ty, pos, af, g⟩).run P w = .ok (.value (.bool (b && p))) w := by
  cases b <;> simp_all [execOp, asBool, gv]
theorem lX {n : Nat} {env : Nat → Value} : ∀ v, ev n env (.const v) = v := fun _ => rfl
theorem ic {T : TypeId} {b : Bool} (hx : ρ x = .bool b) : (execOp ρ ⟨d, .unOp .not T x, ty, pos, af, g⟩).run P w = .ok (.value (.bool !b)) w := r_not hx
theorem ZP {T2 : TypeId} {p q : Bool} (hT : P.underlying T = some .bool) (hx : ρ x = .bool p) (hy : ρ y = .bool q) : (execOp ρ ⟨d, .binOp .neq T x y T2, ty, pos, af, g⟩).run P w = .ok (.value (.bool (p != q))) w := by
  simp [execOp, hx, hy, eqGuard, binOp, run_equal_bool w T p q hT, bne]
theorem aB {z : Value} {b o : Nat} {cs : List Value} (h : SH w0 M K w hp) (i : Nat) (hi : hp i = .blk b cs) (hT : One P T z) (hx : ρ x = .pointer (some ⟨b, o, none⟩)) (hv : cs[o]? = some v) :
    (execOp ρ ⟨d, .load T x, ty, pos, af, g⟩).run P w = .ok (.value v) w := let ⟨_, hb⟩ := h.qV i hi; Q7 hT hx hb (by simpa using hv)
theorem Q9 {zs vs : List Value} {b o : Nat} {cells : Array Value} {E : TypeId} {fz : Nat × Nat} (hT : wJ P T zs) (hx : ρ x = .pointer (some ⟨b, o, none⟩)) (hb : w.heap[b]? = some (.cells cells E fz)) (hv : (cells.toList.drop o).take zs.length = vs) (hl : vs.length = zs.length) :
    (execOp ρ ⟨d, .load T x, ty, pos, af, g⟩).run P w = .ok (.value (.agg vs.toArray)) w := by
  obtain ⟨i, hi, hz, hs⟩ := Ei hT.info
  obtain ⟨dd, hd, hm⟩ := hT.desc
  have hc : ∀ j v, vs[j]? = some v → w.cell? ((⟨b, o, none⟩ : Addr).add j) = some v := by
    intro j v hj
    have hj' : j < zs.length := by
      rcases Nat.lt_or_ge j vs.length with h | h
      · omega
      · rw [List.getElem?_eq_none h] at hj; cases hj
    rw [← hv, List.getElem?_take, if_pos hj', List.getElem?_drop] at hj
    by_cases h0 : j = 0
    · subst h0; simpa [Addr.add, World.cell?, hb] using hj
    · simpa [Addr.add, World.cell?, hb, h0] using hj
  have hr := run_loadCells_list (P := P) (w := w) ⟨b, o, none⟩ vs hc
  rw [hl] at hr
  cases dd <;> simp at hm <;> simp [execOp, Instr.loadAt, hx, Instr.sureAddr, loadVar, isAgg, underlying, hd, sizeOf, typeInfo, hi, hs, hr]
theorem cK {zs vs : List Value} {b o : Nat} {cs : List Value} (h : SH w0 M K w hp) (i : Nat) (hi : hp i = .blk b cs) (hT : wJ P T zs) (hx : ρ x = .pointer (some ⟨b, o, none⟩)) (hv : (cs.drop o).take zs.length = vs) (hl : vs.length = zs.length) :
    (execOp ρ ⟨d, .load T x, ty, pos, af, g⟩).run P w = .ok (.value (.agg vs.toArray)) w := let ⟨_, hb⟩ := h.qV i hi; Q9 hT hx hb (by simpa using hv) hl
theorem pY {z : Value} {b o k : Nat} {cs : List Value} (h : At w b o cs) (hT : One P T z) (hx : ρ x = .pointer (some ⟨b, o + k, none⟩)) (hv : cs[k]? = some v) :
    (execOp ρ ⟨d, .load T x, ty, pos, af, g⟩).run P w = .ok (.value v) w := by
  obtain ⟨cells, E, fz, hb, hc⟩ := h
  refine Q7 hT hx hb ?_
  have hk : k < cs.length := by
    rcases Nat.lt_or_ge k cs.length with h1 | h1
    · exact h1
    · rw [List.getElem?_eq_none h1] at hv; cases hv
  have h0 : ((cells.toList.drop o).take cs.length)[k]? = some v := by rw [hc]; exact hv
  rw [List.getElem?_take, if_pos hk, List.getElem?_drop] at h0
  simpa using h0
theorem Ka {α : Type} {l : List α} {o k m s : Nat} {cs : List α} (h : (l.drop o).take s = cs) (hk : k + m ≤ s) : (l.drop (o + k)).take m = (cs.drop k).take m := by
  rw [← h, List.drop_take, List.take_take, List.drop_drop, Nat.min_eq_left (by omega)]
theorem pI {zs vs : List Value} {b o k : Nat} {cs : List Value} (h : At w b o cs) (hT : wJ P T zs) (hx : ρ x = .pointer (some ⟨b, o + k, none⟩)) (hv : (cs.drop k).take zs.length = vs) (hl : vs.length = zs.length) (hk : k + zs.length ≤ cs.length) :
    (execOp ρ ⟨d, .load T x, ty, pos, af, g⟩).run P w = .ok (.value (.agg vs.toArray)) w := by
  obtain ⟨cells, E, fz, hb, hc⟩ := h
  exact Q9 hT hx hb (by rw [Ka hc hk]; exact hv) hl
theorem dZ {z : Value} {b o k : Nat} {cs : List Value} (h : SH w0 M K w hp) (i : Nat) (hi : hp i = .pt b o cs) (hT : One P T z) (hx : ρ x = .pointer (some ⟨b, o + k, none⟩)) (hv : cs[k]? = some v) :
    (execOp ρ ⟨d, .load T x, ty, pos, af, g⟩).run P w = .ok (.value v) w := pY (h.ptAt i hi) hT hx hv
theorem jH {zs vs : List Value} {b o k : Nat} {cs : List Value} (h : SH w0 M K w hp) (i : Nat) (hi : hp i = .pt b o cs) (hT : wJ P T zs) (hx : ρ x = .pointer (some ⟨b, o + k, none⟩)) (hv : (cs.drop k).take zs.length = vs) (hl : vs.length = zs.length) (hk : k + zs.length ≤ cs.length) :
    (execOp ρ ⟨d, .load T x, ty, pos, af, g⟩).run P w = .ok (.value (.agg vs.toArray)) w := pI (h.ptAt i hi) hT hx hv hl hk
theorem ah {b o k off : Nat} (hT : fH P T k off) (hx : ρ x = .pointer (some ⟨b, o, none⟩)) :
    (execOp ρ ⟨d, .fieldAddr T x k, ty, pos, af, g⟩).run P w = .ok (.value (.pointer (some ⟨b, o + off, none⟩))) w := by
  obtain ⟨fs, f, s, h1, h2, h3, h4⟩ := hT.desc
  obtain ⟨i, hi, hs⟩ : ∃ i, P.info? f.type = some i ∧ i.size = s + 1 := by
    cases hi : P.info? f.type with
    | none => simp [hi] at h4
    | some i => simp [hi] at h4; exact ⟨i, rfl, h4⟩
  by_cases h0 : off = 0 <;> simp [execOp, Instr.fieldAt, underlying, h1, h2, hx, Instr.sureAddr, fieldPlace, sizeOf, typeInfo, hi, hs, h3, Addr.add, h0]
theorem bL {a : Addr} (hx : ρ x = .pointer (some a)) : (execOp ρ ⟨d, .nilCheck x, ty, pos, af, g⟩).run P w = .ok (.value (.pointer (some a))) w := by
  simp [execOp, hx]
theorem bS {α : Type} {R : jE α} {E : TypeId} {sz : Nat} {B A : BS} {l : List α} {w1 : World} (hT : SliceOf P T E sz) (hx : ρ x = v) (hv : gB R w1 B A v l) :
    (execOp ρ ⟨d, .call { callee := .builtin .len, args := #[x], argTypes := #[T] }, ty, pos, af, g⟩).run P w = .ok (.value (.int .i64 l.length)) w := by
  obtain ⟨a, cap, rfl, _⟩ := hv
  exact Nf hT hx
theorem LP {s : Str} (hT : P.underlying T = some .string) (hx : ρ x = aV s) :
    (execOp ρ ⟨d, .call { callee := .builtin .len, args := #[x], argTypes := #[T] }, ty, pos, af, g⟩).run P w = .ok (.value (.int .i64 s.length)) w := by
  have h1 : (⟨s.toArray⟩ : ByteArray).size = s.length := by simp [ByteArray.size]
  simp [execOp, resolve, invoke, builtin, Builtin.len_, hx, aV, underlying, hT, goInt, h1]
theorem r_ix {α : Type} {R : jE α} {E : TypeId} {B A : BS} {l : List α} {k : Int} {a : α} {w1 : World} (hT : SliceOf P T E R.sz) (hv : gB R w1 B A v l) (hk0 : 0 ≤ k) (hk : l[k.toNat]? = some a) :
    ∃ b o cs, (∀ (ρ : Operand → Value) x y w d ty pos af g, ρ x = v → ρ y = .int .i64 k → (execOp ρ ⟨d, .indexAddr T x y, ty, pos, af, g⟩).run P w = .ok (.value (.pointer (some ⟨b, o, none⟩))) w) ∧ ¬ B b ∧ At w1 b o cs ∧ R.rd w1 A cs a := by
  have hkl : k.toNat < l.length := by
    rcases Nat.lt_or_ge k.toNat l.length with h | h
    · exact h
    · rw [List.getElem?_eq_none h] at hk; cases hk
  obtain ⟨a', cap, rfl, h1, h2, h3, h4⟩ := hv
  obtain ⟨b, o, cells, F, fz, rfl, e2, e3, e4⟩ := h4 k.toNat hkl
  obtain ⟨i, hi, hs⟩ : ∃ i, P.info? E = some i ∧ i.size = R.sz := by
    have := hT.info
    cases hi : P.info? E with
    | none => simp [hi] at this
    | some i => simp [hi] at this; exact ⟨i, rfl, this⟩
  have hla : l[k.toNat] = a := by rw [List.getElem?_eq_getElem hkl] at hk; exact Option.some.inj hk
  rw [hla] at e4
  refine ⟨b, o + k.toNat * R.sz, _, ?_, e2, ⟨cells, F, fz, e3, by rw [R.len e4]⟩, e4⟩
  intro ρ x y w d ty pos af g hx hy
  simp only [execOp, Instr.indexAt, hx, hy, asIntOf, underlying, sizeOf, typeInfo]
  have ha : (⟨b, o, none⟩ : Addr).add (k.toNat * R.sz) = ⟨b, o + k.toNat * R.sz, none⟩ := by
    unfold Addr.add
    split
    · next hz => rw [hz]; rfl
    · rfl
  have hk3 : k < (l.length : Int) := by omega
  simp [hT.desc, hi, hs, hk0, hk3, ha]
theorem SH.pt (h : SH w0 M K w hp) (i : Nat) {b o : Nat} {cs : List Value} (hb : ¬ eQ hp b) (ha : At w b o cs) : SH w0 M K w (bH hp i (.pt b o cs)) :=
  h.know i (fun _ h => h) ⟨hb, ha⟩
theorem Kz {i : Nat} {c : Chunk} (hc : ∀ b, ¬ c.own' b) : ∀ b, eQ (bH hp i c) b → eQ hp b := by
  rintro b ⟨j, hj⟩
  by_cases e : j = i
  · subst e; rw [bI] at hj; exact absurd hj (hc b)
  · rw [di e] at hj; exact ⟨j, hj⟩
theorem gB.up {α : Type} {R : jE α} {l : List α} {i : Nat} {c : Chunk} (h : fu R w (SH.A M hp) v l) (hc : ∀ b, ¬ c.own' b := by exact fun _ h => h) : fu R w (SH.A M (bH hp i c)) v l :=
  h.sub (fun b hb _ => hb.imp id (Kz hc b)) (fun b hb _ => hb.imp id (Kz hc b))
abbrev ZQ (P : Program) (T : TypeId) (v : Value) (k : Int) (p : Value) : Prop := ∀ (ρ : Operand → Value) x y w d ty pos af g, ρ x = v → ρ y = .int .i64 k → (execOp ρ ⟨d, .indexAddr T x y, ty, pos, af, g⟩).run P w = .ok (.value p) w
theorem SH.Fj {α : Type} {R : jE α} {E : TypeId} {sz : Nat} {l : List α} {k : Int} {a : α} (h : SH w0 M K w hp) (i j : Nat) (hi : hp i = .rd R v l) (hT : SliceOf P T E sz) (hs : R.sz = sz) (hk0 : 0 ≤ k) (hk : l[k.toNat]? = some a) :
    ∃ b o cs, SH w0 M K w (bH hp j (.pt b o cs)) ∧ R.rd w (SH.A M hp) cs a ∧ ZQ P T v k (.pointer (some ⟨b, o, none⟩)) := by
  subst hs
  obtain ⟨b, o, cs, h1, h2, h3, h4⟩ := r_ix hT (h.fo i hi) hk0 hk
  exact ⟨b, o, cs, h.pt j (fun hb => h2 (.inr hb)) h3, h4, h1⟩
theorem SH.zg {α : Type} {R : jE α} {E : TypeId} {sz : Nat} {l : List α} {k : Int} {a : α} (h : SH w0 M K w hp) (i j : Nat) (hi : hp i = .sr R v l) (hT : SliceOf P T E sz) (hs : R.sz = sz) (hk0 : 0 ≤ k) (hk : l[k.toNat]? = some a) :
    ∃ b o cs, SH w0 M K w (bH hp j (.pt b o cs)) ∧ R.rd w (SH.A M hp) cs a ∧ ZQ P T v k (.pointer (some ⟨b, o, none⟩)) := by
  subst hs
  obtain ⟨b, o, cs, h1, h2, h3, h4⟩ := r_ix hT (h.Dr i hi) hk0 hk
  exact ⟨b, o, cs, h.pt j h2 h3, h4, h1⟩
def Di (o : Option Value) (a : Int) (other : Nat) : Prop := (o = none ∧ a = other) ∨ o = some (.int .i64 a)
def cut {α : Type} (l : List α) (a b : Int) : List α := (l.take b.toNat).drop a.toNat
theorem r_slv {α : Type} {R : jE α} {E : TypeId} {a b : Int} {B A : BS} {l : List α} {w1 : World} (hT : SliceOf P T E R.sz) (hv : gB R w1 B A v l) (ha : 0 ≤ a) (hab : a ≤ b) (hb : b ≤ l.length) :
    ∃ u, (∀ (ρ : Operand → Value) x (lo hi : Option Operand) w d ty pos af g, ρ x = v → Di (lo.map ρ) a 0 → Di (hi.map ρ) b l.length → (execOp ρ ⟨d, .slice T x lo hi none, ty, pos, af, g⟩).run P w = .ok (.value u) w) ∧ gB R w1 B A u (cut l a b) ∧ (∀ (w2 : World) (B2 A2 : BS) (l2 : List α), gB R w2 B2 A2 v l2 → l2.length = l.length → gB R w2 B2 A2 u (cut l2 a b)) := by
  obtain ⟨a, rfl⟩ := Int.eq_ofNat_of_zero_le ha
  obtain ⟨b, rfl⟩ := Int.eq_ofNat_of_zero_le (by omega : 0 ≤ b)
  have hab : a ≤ b := by omega
  have hb : b ≤ l.length := by omega
  obtain ⟨ad, cap, rfl, h1, h2, h3, h4⟩ := hv
  obtain ⟨i, hi', his⟩ : ∃ i, P.info? E = some i ∧ i.size = R.sz := by
    have := hT.info
    cases hi : P.info? E with
    | none => simp [hi] at this
    | some i => simp [hi] at this; exact ⟨i, rfl, this⟩
  have hbc : b ≤ cap := by omega
  refine ⟨.slice (if cap = a then ad else ad.map (·.add (a * R.sz))) (b - a) (cap - a), fun ρ x lo hi w d ty pos af g hx hlo hhi => ?_, ?_⟩
  · have hb2 : (Instr.sliceBounds true l.length cap (lo.map ρ) (hi.map ρ) none).run P w = .ok (a, b, cap) w := by
      have h0 : (0 : Int) ≤ (a : Int) := Int.natCast_nonneg a
      have h0b : (0 : Int) ≤ (b : Int) := Int.natCast_nonneg b
      have hai : (a : Int) ≤ (b : Int) := by omega
      have hbi : (b : Int) ≤ (cap : Int) := by omega
      rcases hlo with ⟨e1, e2⟩ | e1 <;> rcases hhi with ⟨f1, f2⟩ | f1
      · obtain rfl : a = 0 := by omega
        obtain rfl : b = l.length := by omega
        simp [Instr.sliceBounds, e1, f1]
      · obtain rfl : a = 0 := by omega
        simp [Instr.sliceBounds, e1, f1, Instr.sliceBound, asIntOf, hbc]
      · obtain rfl : b = l.length := by omega
        simp [Instr.sliceBounds, e1, f1, Instr.sliceBound, asIntOf, hab]
      · simp [Instr.sliceBounds, e1, f1, Instr.sliceBound, asIntOf, hab, hbc]
    simp only [execOp, Instr.sliceAt, Instr.slice, underlying, hx]
    simp [hT.desc, hb2, sizeOf, typeInfo, hi', his]
  suffices H : ∀ (w2 : World) (B2 A2 : BS) (l2 : List α), gB R w2 B2 A2 (.slice ad l.length cap) l2 → l2.length = l.length → gB R w2 B2 A2 (.slice (if cap = a then ad else ad.map (·.add (a * R.sz))) (b - a) (cap - a)) (cut l2 a b) from ⟨H _ _ _ l ⟨ad, cap, rfl, h1, h2, h3, h4⟩ rfl, H⟩
  · intro w1 B A l ⟨ad', cap', e0, h1, h2, h3, h4⟩ hll
    obtain ⟨e0a, e0b, e0c⟩ := Value.slice.inj e0
    subst e0a
    subst e0c
    have hb : b ≤ l.length := by omega
    have hlen : (cut l a b).length = b - a := by simp [cut]; omega
    refine ⟨_, cap - a, by rw [hlen], by rw [hlen]; omega, by omega, ?_, ?_⟩
    · intro hn
      split at hn
      · omega
      · cases ad with
        | none => have := h3 rfl; omega
        | some x => simp at hn
    · intro j hj
      rw [hlen] at hj
      obtain ⟨bb, o, cells, F, fz, e1, e2, e3, e4⟩ := h4 (a + j) (by omega)
      subst e1
      refine ⟨bb, o + a * R.sz, cells, F, fz, ?_, e2, e3, ?_⟩
      · rw [if_neg (by omega)]
        simp only [Option.map_some, Option.some.injEq]
        unfold Addr.add
        split
        · next hz => rw [hz]; rfl
        · rfl
      · have : (cut l a b)[j]'(by rw [hlen]; exact hj) = l[a + j]'(by omega) := by simp [cut]
        rw [this]
        rw [show o + a * R.sz + j * R.sz = o + (a + j) * R.sz by rw [Nat.add_mul, Nat.add_assoc]]
        exact e4
theorem r_sl {α : Type} {R : jE α} {E : TypeId} {a b : Int} {B A : BS} {l : List α} {w1 : World} (hT : SliceOf P T E R.sz) (hv : gB R w1 B A v l) (ha : 0 ≤ a) (hab : a ≤ b) (hb : b ≤ l.length) :
    ∃ u, (∀ (ρ : Operand → Value) x (lo hi : Option Operand) w d ty pos af g, ρ x = v → Di (lo.map ρ) a 0 → Di (hi.map ρ) b l.length → (execOp ρ ⟨d, .slice T x lo hi none, ty, pos, af, g⟩).run P w = .ok (.value u) w) ∧ gB R w1 B A u (cut l a b) :=
  let ⟨u, h1, h2, _⟩ := r_slv hT hv ha hab hb; ⟨u, h1, h2⟩
abbrev SlOk (P : Program) (T : TypeId) (v : Value) (a b : Int) (n : Nat) (u : Value) : Prop := ∀ (ρ : Operand → Value) x (lo hi : Option Operand) w d ty pos af g, ρ x = v → Di (lo.map ρ) a 0 → Di (hi.map ρ) b n → (execOp ρ ⟨d, .slice T x lo hi none, ty, pos, af, g⟩).run P w = .ok (.value u) w
theorem SH.slS {α : Type} {R : jE α} {E : TypeId} {sz : Nat} {a b : Int} {l : List α} (h : SH w0 M K w hp) (i j : Nat) (hi : hp i = .sr R v l) (hT : SliceOf P T E sz) (hs : R.sz = sz) (ha : 0 ≤ a) (hab : a ≤ b) (hb : b ≤ l.length) :
    ∃ u, SH w0 M K w (bH hp j (.sr R u (cut l a b))) ∧ SlOk P T v a b l.length u := by
  subst hs
  obtain ⟨u, h1, h2⟩ := r_sl hT (h.Dr i hi) ha hab hb
  exact ⟨u, h.know j (fun _ h => h) h2, h1⟩
theorem Nh {zs : List Value} (hT : wJ P T zs) : (execOp ρ ⟨d, .alloc T, ty, pos, af, g⟩).run P w = .ok (.value (.pointer (some ⟨w.heap.size, 0, none⟩))) (w.alloc (.cells zs.toArray T)) := by
  obtain ⟨i, hi, hz, hs⟩ := Ei hT.info
  simp [execOp, Instr.alloc, zeroValue, typeInfo, hi, hz, newVar, newRow, Value.cells, World.alloc, -World.alloc_eq]
theorem UJ {z : Value} (hT : One P T z) : (execOp ρ ⟨d, .alloc T, ty, pos, af, g⟩).run P w = .ok (.value (.pointer (some ⟨w.heap.size, 0, none⟩))) (w.alloc (.cells #[z] T)) := by
  obtain ⟨i, hi, hz, hs⟩ := Ei hT.info
  simp [execOp, Instr.alloc, zeroValue, typeInfo, hi, hz, newVar, newRow, hT.cell, World.alloc, -World.alloc_eq]
theorem r_box (hx : ρ x = v) : (execOp ρ ⟨d, .box T x, ty, pos, af, g⟩).run P w = .ok (.value (.pointer (some ⟨w.heap.size, 0, none⟩))) (w.alloc (.cells v.cells T)) := by
  simp [execOp, Instr.box, newVar, newRow, hx, World.alloc, -World.alloc_eq]
theorem SH.XM (h : SH w0 M K w hp) (i : Nat) (cs : List Value) (T : TypeId) : SH w0 M K (w.alloc (.cells cs.toArray T)) (bH hp i (.blk w.heap.size cs)) :=
  h.learn i (Grow.alloc _ _) (fun b hb => Nat.le_of_eq hb.symm) ⟨T, Cw _ _⟩
theorem bU {zs : List Value} (h : SH w0 M K w hp) (i : Nat) (hT : wJ P T zs) (k : ∀ w' b, SH w0 M K w' (bH hp i (.blk b zs)) → WL P ops Q rest n (jJ env d (.pointer (some ⟨b, 0, none⟩))) w') : WL P ops Q (⟨d, .alloc T, ty, pos, af, none⟩ :: rest) n env w :=
  aa (Nh hT) (k _ _ (h.XM i zs T))
theorem qd {z : Value} (h : SH w0 M K w hp) (i : Nat) (hT : One P T z) (k : ∀ w' b, SH w0 M K w' (bH hp i (.blk b [z])) → WL P ops Q rest n (jJ env d (.pointer (some ⟨b, 0, none⟩))) w') : WL P ops Q (⟨d, .alloc T, ty, pos, af, none⟩ :: rest) n env w :=
  aa (UJ hT) (k _ _ (h.XM i [z] T))
theorem oW {cs : List Value} (h : SH w0 M K w hp) (i : Nat) (hx : ev n env x = v) (hv : v.cells = cs.toArray) (k : ∀ w' b, SH w0 M K w' (bH hp i (.blk b cs)) → WL P ops Q rest n (jJ env d (.pointer (some ⟨b, 0, none⟩))) w') : WL P ops Q (⟨d, .box T x, ty, pos, af, none⟩ :: rest) n env w :=
  aa (by rw [r_box hx, hv]) (k _ _ (h.XM i cs T))
theorem El {z : Value} {b o : Nat} {cs : Array Value} {E : TypeId} (hT : One P T z) (hx : ρ x = .pointer (some ⟨b, o, none⟩)) (hb : w.heap[b]? = some (.cells cs E (0, 0))) (ho : o < cs.size) (hy : ρ y = v) (hv : v.oneCell' = true) :
    (execOp ρ ⟨d, .store T x y, ty, pos, af, g⟩).run P w = .ok .skip (qW w b (.cells (cs.setIfInBounds o v) E (0, 0))) := by
  obtain ⟨i, hi, hz, hs⟩ := Ei hT.info
  have hc : w.cell? ⟨b, o, none⟩ = some cs[o] := by simp [World.cell?, hb, ho]
  have hf : w.frozen? ⟨b, o, none⟩ = false := by simp [World.frozen?, hb]
  have hcs : v.cells = #[v] := by cases v <;> first | rfl | simp [Value.oneCell'] at hv
  rw [← LM hb]
  simp only [execOp, Instr.storeAt, hx, hy, Instr.sureAddr, storeVar, hcs, sizeOf, typeInfo]
  simp [hi, hs, storeCells, run_store _ _ _ _ _ hv, hc, hf, Addr.add]
theorem Ic {zs vs : List Value} {b o : Nat} {cs : List Value} {E : TypeId} (hT : wJ P T zs) (hx : ρ x = .pointer (some ⟨b, o, none⟩)) (hb : w.heap[b]? = some (.cells cs.toArray E (0, 0))) (hy : ρ y = .agg vs.toArray) (hl : vs.length = zs.length) (ho : o + vs.length ≤ cs.length) (hv : ∀ v ∈ vs, v.oneCell' = true) :
    (execOp ρ ⟨d, .store T x y, ty, pos, af, g⟩).run P w = .ok .skip (qW w b (.cells (Ej cs o vs).toArray E (0, 0))) := by
  obtain ⟨i, hi, hz, hs⟩ := Ei hT.info
  have := run_storeCells_at (P := P) b o E vs 0 cs.toArray w hb (by simpa using ho) hv
  simp only [execOp, Instr.storeAt, hx, hy, Instr.sureAddr, storeVar, Value.cells, sizeOf, typeInfo]
  simp [hi, hs, hl, this, Ng hb, Ej]
theorem SH.XN {b : Nat} {cs : List Value} (h : SH w0 M K w hp) (i : Nat) (hi : hp i = .blk b cs) (cs' : List Value) (E : TypeId) : SH w0 M K (qW w b (.cells cs'.toArray E (0, 0))) (bH hp i (.blk b cs')) := by
  have hb := h.qV i hi
  obtain ⟨E', hb⟩ := hb
  exact h.step i (aI.qW _ _ _) (fun x hx _ => by rw [hi]; exact hx) (fun x hx _ => by rw [hi]; exact hx) ⟨E, tL (gK hb)⟩
theorem fA {z : Value} {b o : Nat} {cs : List Value} (h : SH w0 M K w hp) (i : Nat) (cs' : List Value) (hi : hp i = .blk b cs) (hT : One P T z) (hx : ev n env x = .pointer (some ⟨b, o, none⟩)) (hy : ev n env y = v) (ho : cs.set o v = cs') (hl : Nat.blt o cs.length = true) (hv : v.oneCell' = true)
    (k : ∀ w', SH w0 M K w' (bH hp i (.blk b cs')) → WL P ops Q rest n (jJ env d undef) w') :
    WL P ops Q (⟨d, .store T x y, ty, pos, af, none⟩ :: rest) n env w := by
  obtain ⟨E, hb⟩ := h.qV i hi
  refine tJ (El hT hx hb (by rw [Nat.blt_eq] at hl; simpa using hl) hy hv) (k _ ?_)
  have := h.XN i hi cs' E
  subst ho
  simpa using this
theorem dm {zs vs : List Value} {b o : Nat} {cs : List Value} (h : SH w0 M K w hp) (i : Nat) (cs' : List Value) (hi : hp i = .blk b cs) (hT : wJ P T zs) (hx : ev n env x = .pointer (some ⟨b, o, none⟩)) (hy : ev n env y = .agg vs.toArray) (hl : vs.length = zs.length) (ho : Ej cs o vs = cs') (hb : Nat.ble (o + vs.length) cs.length = true) (hv : ∀ v ∈ vs, v.oneCell' = true)
    (k : ∀ w', SH w0 M K w' (bH hp i (.blk b cs')) → WL P ops Q rest n (jJ env d undef) w') :
    WL P ops Q (⟨d, .store T x y, ty, pos, af, none⟩ :: rest) n env w := by
  obtain ⟨E, hb'⟩ := h.qV i hi
  subst ho
  exact tJ (Ic hT hx hb' hy hl (Nat.le_of_ble_eq_true hb) hv) (k _ (h.XN i hi _ E))
def gP (P : Program) (f : FuncId) : Prop := ∃ fn, P.funcs[f]? = some fn ∧ (fn.name == "runtime.NumGoroutine") = false ∧ fn.body.isNone = false
theorem ZR {f : FuncId} {first captured : Array Value} {xs : Array Operand} {ts : Array TypeId} (hf : gP P f) (hx : ρ x = .func (.func f) first captured) :
    (execOp ρ ⟨d, .call { callee := .value x, args := xs, argTypes := ts }, ty, pos, af, g⟩).run P w = .ok (.enter f (first ++ xs.map ρ ++ captured)) w := by
  obtain ⟨fn, h1, h2, h3⟩ := hf
  have h2' : ¬ fn.name = "runtime.NumGoroutine" := by simpa using h2
  have h3' : ¬ fn.body = none := fun e => by simp [e] at h3
  simp [execOp, resolve, hx, Deferred.ofValue, invoke, callFunc, h1, h2', h3']
theorem aS {f : FuncId} {first captured : Array Value} {xs : Array Operand} {ts : Array TypeId} {args : List Value} {R : Ending → World → Prop} (hf : gP P f) (hx : ev n env x = .func (.func f) first captured)
    (ha : first.toList ++ xs.toList.map (ev n env) ++ captured.toList = args) (hc : Calls P f args.toArray w R)
    (h : ∀ e w', R e w' → ∃ v, e = .returned v ∧ WL P ops Q rest n (jJ env d v) w') :
    WL P ops Q (⟨d, .call { callee := .value x, args := xs, argTypes := ts }, ty, pos, af, none⟩ :: rest) n env w := by
  refine UG (ZR hf hx) ?_ h
  have : first ++ xs.map (ev n env) ++ captured = args.toArray := by
    rw [← ha]; apply Array.ext'; simp
  rw [this]
  exact hc
theorem aU {i : Nat} {vs : List Value} (hx : ρ x = .tuple vs.toArray) (hv : vs[i]? = some v) : (execOp ρ ⟨d, .extract x i, ty, pos, af, g⟩).run P w = .ok (.value v) w := by
  simp [execOp, Instr.extract, hx, hv]
theorem rV {f : FuncId} {first captured : Array Operand} {c1 c2 : List Value} (h1 : first.toList.map ρ = c1) (h2 : captured.toList.map ρ = c2) :
    (execOp ρ ⟨d, .makeFunc (.func f) first captured, ty, pos, af, g⟩).run P w = .ok (.value (.func (.func f) c1.toArray c2.toArray)) w := by
  have e1 : first.map ρ = c1.toArray := by rw [← h1]; apply Array.ext'; simp
  have e2 : captured.map ρ = c2.toArray := by rw [← h2]; apply Array.ext'; simp
  simp [execOp, Instr.makeFunc, e1, e2]
theorem aN {f : FuncId} {fn : Func} {c : Code} {args : List Value} {R : Ending → World → Prop} {n : Nat}
    (hf : P.funcs[f]? = some fn) (hb : fn.body = some c) (hn : fn.ntmps = n) (hl : args.length ≤ n)
    (h : WC P c (bodyPost P fn R) n (GV args) w) : Calls P f args.toArray w R := by
  refine calls_of_wp hf hb ?_
  rw [hn, UF n args hl]
  exact h.out
theorem bQ {fn : Func} {R : Ending → World → Prop} {t : Tmp} (hr : fn.results = #[.tmp t]) (hv : ev n env (.tmp t) = v) (h : R (.returned v) w) : bodyPost P fn R .ret (act n env) w := by
  refine ⟨rfl, v, ?_, h⟩
  rw [results_tmp hr]
  have := congrFun (gD n env) (.tmp t)
  rw [hv] at this
  exact congrArg (fun v => Result.ok v w) this
theorem fin0 {fn : Func} {R : Ending → World → Prop} (hr : fn.results = #[]) (h : R (.returned (.tuple #[])) w) : bodyPost P fn R .ret (act n env) w := ⟨rfl, _, results_none hr _ _ _, h⟩
theorem KA {fn : Func} {R : Ending → World → Prop} (hr : fn.results = #[]) (h : R (.returned (.tuple #[])) w) : bodyPost P fn R .normal (act n env) w := ⟨rfl, _, results_none hr _ _ _, h⟩
theorem Fp {fn : Func} {R : Ending → World → Prop} {t u : Tmp} {v1 v2 : Value} (hr : fn.results = #[.tmp t, .tmp u]) (h1 : ev n env (.tmp t) = v1) (h2 : ev n env (.tmp u) = v2) (h : R (.returned (.tuple #[v1, v2])) w) : bodyPost P fn R .ret (act n env) w := by
  refine ⟨rfl, _, ?_, h⟩
  rw [results_tmp2 hr]
  have e1 := congrFun (gD n env) (.tmp t)
  have e2 := congrFun (gD n env) (.tmp u)
  rw [h1] at e1
  rw [h2] at e2
  simp only [Act.eval] at e1 e2
  rw [e1, e2]
end
section
variable {α β σ ρ : Type} {r : ρ} {G : Prop}
theorem jf {b : Bool} {X Y : ρ} (hs : cond b X Y = r) (h1 : b = true → X = r → G) (h2 : b = false → Y = r → G) : G := by
  cases b
  · exact h2 rfl hs
  · exact h1 rfl hs
theorem aJ {o : Option α} {f : α → Option β} {r : β} (h : o.bind f = some r) : ∃ x, o = some x ∧ f x = some r := by
  cases o with
  | none => cases h
  | some x => exact ⟨x, rfl, h⟩
def gL (p : Prop) [Decidable p] (x : Option β) : Option β := if p then x else none
theorem bg {p : Prop} [Decidable p] {x : Option β} {r : β} (h : gL p x = some r) : p ∧ x = some r := by
  unfold gL at h
  by_cases hp : p
  · rw [if_pos hp] at h; exact ⟨hp, h⟩
  · rw [if_neg hp] at h; cases h
def idx (l : List α) (k : Int) : Option α := if 0 ≤ k then l[k.toNat]? else none
theorem aH {l : List α} {k : Int} {x : α} (h : idx l k = some x) : 0 ≤ k ∧ l[k.toNat]? = some x := by
  unfold idx at h
  by_cases hp : 0 ≤ k
  · rw [if_pos hp] at h; exact ⟨hp, h⟩
  · rw [if_neg hp] at h; cases h
def sub? (l : List α) (a b : Int) : Option (List α) := if 0 ≤ a ∧ a ≤ b ∧ b ≤ l.length then some (cut l a b) else none
theorem Ni {l : List α} {a b : Int} {x : List α} (h : sub? l a b = some x) : x = cut l a b ∧ 0 ≤ a ∧ a ≤ b ∧ b ≤ l.length := by
  unfold sub? at h
  by_cases hp : 0 ≤ a ∧ a ≤ b ∧ b ≤ l.length
  · rw [if_pos hp] at h; cases h; exact ⟨rfl, hp⟩
  · rw [if_neg hp] at h; cases h
def jN (x : Int) : Prop := -9223372036854775808 ≤ x ∧ x ≤ 9223372036854775807
def XO : Int → Bool
  | .ofNat n => Nat.ble n 9223372036854775807
  | .negSucc n => Nat.ble n 9223372036854775807
theorem UK {x : Int} : XO x = true ↔ jN x := by
  unfold jN
  cases x with
  | ofNat n => simp [XO, Nat.ble_eq]; omega
  | negSucc n => simp [XO, Nat.ble_eq]; omega
instance (x : Int) : Decidable (jN x) := decidable_of_iff (XO x = true) UK
theorem jN.mk {x : Int} (h1 : -9223372036854775808 ≤ x) (h2 : x ≤ 9223372036854775807) : jN x := ⟨h1, h2⟩
def each (body : α → σ → (σ → ρ) → ρ) (k : σ → ρ) : List α → σ → ρ
  | [], s => k s
  | x :: r, s => body x s (each body k r)
def eO (body : Int → α → σ → (σ → ρ) → ρ) (k : σ → ρ) : Int → List α → σ → ρ
  | _, [], s => k s
  | i, x :: r, s => body i x s (eO body k (i + 1) r)
def upto (body : Int → σ → (σ → ρ) → ρ) (k : σ → ρ) : Int → Nat → σ → ρ
  | _, 0, s => k s
  | i, m + 1, s => body i s (upto body k (i + 1) m)
def again (body : σ → (σ → Option β) → Option β) : Nat → σ → Option β
  | 0, _ => none
  | n + 1, s => body s (again body n)
end
section
variable {P : Program} {Q : Exit → Act → World → Prop} {n : Nat} {env : Nat → Value} {w : World} {x y : Code}
theorem aG {ρ : Type} {r X Y : ρ} {c : Operand} {b : Bool} (hs : cond b X Y = r) (hc : ev n env c = .bool b) (h1 : b = true → X = r → WC P x Q n env w) (h2 : b = false → Y = r → WC P y Q n env w) :
    WC P (Code.cond c x y) Q n env w := iE hc (fun h => h1 h (by rw [h] at hs; exact hs)) (fun h => h2 h (by rw [h] at hs; exact hs))
def JP {σ : Type} (n : Nat) (mod : Nat → Bool) (GV : Nat → Value) (live : σ → List (Nat × Value)) (J : σ → World → Prop) : Act → World → Prop :=
  fun a' w' => ∃ s e, a' = act n e ∧ yl mod e GV ∧ Holds e (live s) ∧ J s w'
def JL {σ : Type} (n : Nat) (mod : Nat → Bool) (GV : Nat → Value) (live : σ → List (Nat × Value)) (J : σ → World → Prop) (μ : σ → Nat) (s0 : σ) : Act → World → Prop :=
  fun a' w' => ∃ s e, a' = act n e ∧ yl mod e GV ∧ Holds e (live s) ∧ J s w' ∧ μ s < μ s0
theorem gF {σ : Type} {c : Code} (mod : Nat → Bool) (live : σ → List (Nat × Value)) (J : σ → World → Prop) (μ : σ → Nat) (s0 : σ)
    (hl : Holds env (live s0)) (hJ : J s0 w)
    (round : ∀ s wr dx, J s wr → WC P c (Exit.then (JL n mod env live J μ s) Q) n (J9 (Q6 mod dx env) (live s)) wr) :
    WC P (Code.loop c) Q n env w := XL mod live J μ s0 hl hJ round
theorem bW {σ : Type} (mod : Nat → Bool) (live : σ → List (Nat × Value)) (J : σ → World → Prop)
    (hj : ∀ s w dx, J s w → WC P y Q n (J9 (Q6 mod dx env) (live s)) w)
    (h : WC P x (Exit.then (JP n mod env live J) Q) n env w) : WC P (Code.seq x y) Q n env w := by
  refine aP ⟨wp_mono h.out (fun ex a w h => ?_)⟩
  cases ex with
  | normal =>
    obtain ⟨s, e, rfl, hA, hH, hJ⟩ := h
    have := hj s w e hJ
    rw [Nc hA, Fh _ hH] at this
    exact this.out
  | _ => exact h
end
section
variable {K : Act → World → Prop} {Q : Exit → Act → World → Prop} {a : Act} {w : World} {i j : Nat}
theorem au (h : K a w) : Exit.then K Q .normal a w := h
theorem ay (h : Q .ret a w) : Exit.then K Q .ret a w := h
theorem bA (h : Q (.exit i) a w) : Exit.then K Q (.exit i) a w := h
theorem ax (h : Q .normal a w) : Exit.inBlock i Q .normal a w := h
theorem aD (h : Q .ret a w) : Exit.inBlock i Q .ret a w := h
theorem dE (h : Q .normal a w) : Exit.inBlock i Q (.exit i) a w := by simp only [Exit.inBlock, if_true]; exact h
theorem rW (hn : ¬ j = i) (h : Q (.exit j) a w) : Exit.inBlock i Q (.exit j) a w := by simp only [Exit.inBlock, if_neg hn]; exact h
end
theorem yl.os {mod : Nat → Bool} {e entry : Nat → Value} {d : Nat} {v : Value} (hd : mod d = true) (h : yl mod e entry) : yl mod (jJ e (some d) v) entry := yl.upd hd h
theorem yl.on {mod : Nat → Bool} {e entry : Nat → Value} {v : Value} (h : yl mod e entry) : yl mod (jJ e none v) entry := h
theorem yl.uc {mod : Nat → Bool} {e entry : Nat → Value} {d : Nat} {v : Value} {l : List (Nat × Value)} (hd : mod d = true) (h : yl mod (J9 e l) entry) : yl mod (J9 e ((d, v) :: l)) entry := yl.upd hd h
theorem yl.un {mod : Nat → Bool} {e entry : Nat → Value} (h : yl mod e entry) : yl mod (J9 e []) entry := h
def inl (l : List Nat) (i : Nat) : Bool := match l with | [] => false | a :: r => bif Nat.beq i a then true else inl r i
def XP (l m : List Nat) : Bool := match l with | [] => true | a :: r => bif inl m a then XP r m else false
theorem Nj {m : List Nat} : ∀ {l : List Nat}, XP l m = true → ∀ i, inl l i = true → inl m i = true
  | [], _, i, h => by simp [inl] at h
  | a :: r, hs, i, h => by
    unfold XP at hs
    unfold inl at h
    cases ha : inl m a with
    | false => simp [ha] at hs
    | true =>
      simp only [ha, cond_true] at hs
      cases hb : Nat.beq i a with
      | true => have := Nat.eq_of_beq_eq_true hb; subst this; exact ha
      | false => simp only [hb, cond_false] at h; exact Nj hs i h
theorem yl.hin {l m : List Nat} {j e entry : Nat → Value} (hs : XP l m = true) (h : yl (inl m) e entry) : yl (inl m) (LX.Q6 (inl l) j e) entry := fun i hi => by
  have : inl l i = false := by
    cases hc : inl l i with
    | false => rfl
    | true => rw [Nj hs i hc] at hi; cases hi
  simp only [LX.Q6, this, cond_false]
  exact h i hi
end Go.LX
namespace Go.LX
open Go.RowKit
theorem gB.row {α : Type} {R : jE α} {w : World} {B A : BS} {v : Value} {l : List α} (h : gB R w B A v l) :
    (v = .slice none 0 0 ∧ l = []) ∨ ∃ (a : Addr) (cap : Nat) (news : List Value), v = .slice (some a) l.length cap ∧ news.length = l.length * R.sz ∧ (∀ j u, news[j]? = some u → w.cell? (a.add j) = some u) ∧ (∀ u ∈ news, u.oneCell' = true) ∧
      ∀ i (h : i < l.length), R.rd w A ((news.drop (i * R.sz)).take R.sz) l[i] := by
  obtain ⟨a, cap, rfl, h1, h2, h3, h4⟩ := h
  cases a with
  | none =>
    have hc := h3 rfl
    subst hc
    have hl : l = [] := List.eq_nil_of_length_eq_zero (by omega)
    subst hl
    exact .inl ⟨rfl, rfl⟩
  | some a =>
    right
    by_cases hl : l.length = 0
    · have : l = [] := List.eq_nil_of_length_eq_zero hl
      subst this
      exact ⟨a, cap, [], rfl, by simp, fun j u h => by simp at h, fun u h => by simp at h, fun i h => absurd h (Nat.not_lt_zero _)⟩
    · obtain ⟨b, o, cells, E, fz, e1, e2, e3, e4⟩ := h4 0 (by omega)
      cases e1
      have all : ∀ i (hi : i < l.length), R.rd w A ((cells.toList.drop (o + i * R.sz)).take R.sz) l[i] := by
        intro i hi
        obtain ⟨b', o', cells', E', fz', e1, _, e3', e4'⟩ := h4 i hi
        cases e1
        rw [e3] at e3'
        cases e3'
        exact e4'
      have hlast := R.len (all (l.length - 1) (by omega))
      simp only [List.length_take, List.length_drop, Array.length_toList] at hlast
      have hpos := R.pos
      have hfit : o + l.length * R.sz ≤ cells.size := by
        have h5 : l.length * R.sz = (l.length - 1) * R.sz + R.sz := by
          conv => lhs; rw [show l.length = (l.length - 1) + 1 by omega]
          rw [Nat.add_mul, Nat.one_mul]
        omega
      refine ⟨⟨b, o, none⟩, cap, (cells.toList.drop o).take (l.length * R.sz), rfl, ?_, ?_, ?_, ?_⟩
      · simp only [List.length_take, List.length_drop, Array.length_toList]; omega
      · intro j u hu
        rw [List.getElem?_take] at hu
        split at hu
        · rw [List.getElem?_drop] at hu
          have ha : (⟨b, o, none⟩ : Addr).add j = ⟨b, o + j, none⟩ := by unfold Addr.add; split <;> simp_all
          rw [ha]
          simpa [World.cell?, e3] using hu
        · cases hu
      · intro u hu
        obtain ⟨j, hj⟩ := List.getElem?_of_mem hu
        rw [List.getElem?_take] at hj
        split at hj
        · next hlt =>
          rw [List.getElem?_drop] at hj
          have hi : j / R.sz < l.length := Nat.div_lt_of_lt_mul (by rw [Nat.mul_comm]; exact hlt)
          refine R.one (all (j / R.sz) hi) u ?_
          refine List.mem_of_getElem? (i := j % R.sz) ?_
          rw [List.getElem?_take, if_pos (Nat.mod_lt _ hpos), List.getElem?_drop]
          rw [show o + j / R.sz * R.sz + j % R.sz = o + j by rw [Nat.add_assoc, Nat.div_add_mod' j R.sz]]
          exact hj
        · cases hj
      · intro i hi
        rw [List.drop_take, List.take_take, List.drop_drop, Nat.min_eq_left]
        · exact all i hi
        · have : (i + 1) * R.sz ≤ l.length * R.sz := Nat.mul_le_mul_right _ hi
          rw [Nat.add_mul] at this
          omega
theorem KC (c : List Value) : ∀ (cells : Array Value) (o : Nat), o + c.length ≤ cells.size →
    (c.zipIdx.foldl (fun cs (p : Value × Nat) => cs.setIfInBounds (o + p.2) p.1) cells).toList = Ej cells.toList o c := by
  suffices H : ∀ (k : Nat) (cells : Array Value) (o : Nat), o + k + c.length ≤ cells.size →
      ((c.zipIdx k).foldl (fun cs (p : Value × Nat) => cs.setIfInBounds (o + p.2) p.1) cells).toList = Ej cells.toList (o + k) c by
    intro cells o h
    have := H 0 cells o (by simpa using h)
    simpa using this
  induction c with
  | nil => intro k cells o h; simp [Ej]
  | cons x r ih =>
    intro k cells o h
    simp only [List.length_cons] at h
    rw [List.zipIdx_cons, List.foldl_cons, ih (k + 1) _ o (by simp; omega)]
    simp only [Array.toList_setIfInBounds, Ej]
    rw [show o + (k + 1) = o + k + 1 by omega]
    apply List.ext_getElem?
    intro i
    simp only [List.append_assoc, List.getElem?_append, List.length_take, List.length_set, Array.length_toList, List.getElem?_take, List.getElem?_set, List.getElem?_drop, List.length_cons, List.getElem?_cons]
    grind
theorem Ie {sz : Nat} (hz : 0 < sz) : ∀ (vs : List Value) (k : Nat) (cells : Array Value), (∀ v ∈ vs, v.cells.size = sz) → (k + vs.length) * sz ≤ cells.size →
    ∃ out, Instr.fill (fun i => some (i * sz, sz)) cells ((vs.zipIdx k).map fun p => (p.2, p.1)) = some out ∧ out.toList = Ej cells.toList (k * sz) (vs.map fun v => v.cells.toList).flatten
  | [], k, cells, _, _ => ⟨cells, rfl, by simp [Ej]⟩
  | v :: r, k, cells, hv, hs => by
    have h1 : v.cells.size = sz := hv v (by simp)
    simp only [List.length_cons] at hs
    have hs2 : (k + 1 + r.length) * sz ≤ cells.size := by rw [show k + 1 + r.length = k + (r.length + 1) by omega]; exact hs
    have hk : k * sz + sz ≤ cells.size := by
      have : (k + 1) * sz ≤ (k + 1 + r.length) * sz := Nat.mul_le_mul_right _ (by omega)
      rw [Nat.add_mul, Nat.one_mul] at this
      omega
    have hf := KC v.cells.toList cells (k * sz) (by rw [Array.length_toList, h1]; exact hk)
    let c2 := v.cells.zipIdx.foldl (fun cs (p : Value × Nat) => cs.setIfInBounds (k * sz + p.2) p.1) cells
    have hc2 : c2.toList = Ej cells.toList (k * sz) v.cells.toList := by
      rw [← hf]
      show (v.cells.zipIdx.foldl _ cells).toList = _
      rw [← Array.foldl_toList, Array.toList_zipIdx]
    have hl2 : c2.size = cells.size := by
      have := congrArg List.length hc2
      simp only [Ej, List.length_append, List.length_take, List.length_drop, Array.length_toList] at this
      omega
    obtain ⟨out, ho1, ho2⟩ := Ie hz r (k + 1) c2 (fun x hx => hv x (by simp [hx])) (by rw [hl2]; exact hs2)
    refine ⟨out, ?_, ?_⟩
    · rw [List.zipIdx_cons, List.map_cons]
      unfold Instr.fill
      simp only [h1, ne_eq, not_true_eq_false, decide_false, Bool.false_or]
      rw [if_neg (by simp; omega)]
      exact ho1
    · rw [ho2, hc2]
      simp only [List.map_cons, List.flatten_cons, Ej]
      rw [show (k + 1) * sz = k * sz + sz by rw [Nat.add_mul, Nat.one_mul]]
      have h3 : v.cells.toList.length = sz := by rw [Array.length_toList, h1]
      generalize v.cells.toList = c at *
      generalize (r.map fun v => v.cells.toList).flatten = q
      apply List.ext_getElem?
      intro i
      simp only [List.append_assoc, List.getElem?_append, List.length_take, Array.length_toList, List.length_append, List.getElem?_take, List.getElem?_drop, List.length_drop]
      grind
def zh {α : Type} (R : jE α) (w : World) (A : BS) : List Value → List α → Prop
  | [], [] => True
  | v :: vs, x :: xs => R.rd w A v.cells.toList x ∧ zh R w A vs xs
  | _, _ => False
theorem zh.len {α : Type} {R : jE α} {w : World} {A : BS} : ∀ {vs : List Value} {xs : List α}, zh R w A vs xs → vs.length = xs.length
  | [], [], _ => rfl
  | v :: vs, x :: xs, h => by simp [zh.len h.2]
  | [], _ :: _, h => h.elim
  | _ :: _, [], h => h.elim
theorem zh.sizes {α : Type} {R : jE α} {w : World} {A : BS} : ∀ {vs : List Value} {xs : List α}, zh R w A vs xs → ∀ v ∈ vs, v.cells.size = R.sz
  | [], [], _ => by simp
  | v :: vs, x :: xs, h => by
    intro u hu
    rcases List.mem_cons.1 hu with rfl | hu
    · have := R.len h.1; simpa using this
    · exact zh.sizes h.2 u hu
  | [], _ :: _, h => h.elim
  | _ :: _, [], h => h.elim
theorem Nk {sz : Nat} : ∀ {vs : List Value}, (∀ v ∈ vs, v.cells.size = sz) → (vs.map fun v => v.cells.toList).flatten.length = vs.length * sz
  | [], _ => by simp
  | v :: r, h => by
    have h1 := h v (by simp)
    have h2 := Nk (fun u hu => h u (List.mem_cons_of_mem _ hu))
    simp only [List.map_cons, List.flatten_cons, List.length_append, h2, Array.length_toList, h1, List.length_cons, Nat.add_mul]
    omega
theorem zh.at {α : Type} {R : jE α} {w : World} {A : BS} : ∀ {vs : List Value} {xs : List α}, zh R w A vs xs → ∀ i (h : i < xs.length), R.rd w A (((vs.map fun v => v.cells.toList).flatten.drop (i * R.sz)).take R.sz) xs[i]
  | [], [], _, i, h => absurd h (Nat.not_lt_zero _)
  | v :: vs, x :: xs, h, i, hi => by
    have h1 : v.cells.toList.length = R.sz := R.len h.1
    cases i with
    | zero =>
      simp only [List.map_cons, List.flatten_cons, Nat.zero_mul, List.drop_zero, List.getElem_cons_zero]
      rw [List.take_append_of_le_length (by omega), List.take_of_length_le (by omega)]
      exact h.1
    | succ i =>
      have := zh.at h.2 i (by simpa using hi)
      simp only [List.map_cons, List.flatten_cons, List.getElem_cons_succ]
      rw [List.drop_append, List.drop_eq_nil_of_le (by rw [h1, Nat.add_mul]; omega), List.nil_append, h1, show (i + 1) * R.sz - R.sz = i * R.sz by rw [Nat.add_mul]; omega]
      exact this
  | [], _ :: _, h, _, _ => h.elim
  | _ :: _, [], h, _, _ => h.elim
structure Struct (P : Program) (T : TypeId) (zs : List Value) (pl : List (Nat × Nat)) : Prop where
  zero : (P.info? T).map (·.zero) = some (some (.agg zs.toArray))
  desc : ∃ fs, P.underlying T = some (.struct fs) ∧ fs.toList.map (fun f => (f.offset, (P.info? f.type).map (·.size))) = pl.map (fun p => (p.1, some p.2))
def Pp (pl : List (Nat × Nat)) (cs : List Value) : List (Nat × Value) → List Value → Prop
  | [], out => cs = out
  | (i, v) :: r, out => ∃ off size vs, pl[i]? = some (off, size) ∧ v.cells.toList = vs ∧ vs.length = size ∧ off + size ≤ cs.length ∧ Pp pl (Ej cs off vs) r out
theorem Ra {pl : List (Nat × Nat)} : ∀ {parts : List (Nat × Value)} {cs out : List Value}, Pp pl cs parts out → Instr.fill (fun i => pl[i]?) cs.toArray parts = some out.toArray
  | [], cs, out, h => by cases h; rfl
  | (i, v) :: r, cs, out, h => by
    obtain ⟨off, size, vs, h1, h2, h3, h4, h5⟩ := h
    unfold Instr.fill
    simp only [h1]
    have hsz : v.cells.size = size := by rw [← h3, ← h2, Array.length_toList]
    rw [if_neg (by simp [hsz]; omega)]
    have hf := KC vs cs.toArray off (by rw [h3]; simpa using h4)
    have : (v.cells.zipIdx.foldl (fun cs (p : Value × Nat) => cs.setIfInBounds (off + p.2) p.1) cs.toArray) = (Ej cs off vs).toArray := by
      apply Array.ext'
      rw [← Array.foldl_toList, Array.toList_zipIdx, h2]
      exact hf
    have ih := Ra h5
    rw [← this] at ih
    exact ih
section
variable {P : Program} {ops : Array Oper} {Q : Exit → Act → World → Prop} {n : Nat} {env : Nat → Value} {w w' w0 : World} {M K : BS} {hp : Nat → Chunk} {rest : List Oper}
  {d : Option Nat} {op : Op} {ty : TypeId} {pos : String} {af : Array Edge} {v : Value} {g : Option (Nat × Bool)} {T : TypeId} {ρ : Operand → Value} {x y : Operand}
theorem Bd (h : w.grownBy w' v.ownBlock) : aI (ob v) w w' :=
  ⟨h.os, h.tape, h.output, h.size, fun b hb hl => h.block b hl (fun e => hb (UI.2 e.symm))⟩
theorem Dj {E : TypeId} {sz bytes : Nat} {a : Option Addr} {l c : Nat} (hT : oh P T E sz bytes) (hx : ρ x = .slice a l c) (hl : l ≤ c) (hy : ρ y = .slice none 0 0) :
    (execOp ρ ⟨d, .call { callee := .builtin .append, args := #[x, y], argTypes := #[T, T] }, ty, pos, af, g⟩).run P w = .ok (.value (.slice a l c)) w := by
  obtain ⟨i, z, hi, hz, hs, _, _⟩ := hT.info
  cases a <;> simp [execOp, resolve, invoke, builtin, hx, hy, Builtin.append_, underlying, hT.desc, sizeOf, typeInfo, hi, Builtin.lenOf, hl, Builtin.firstCells, storeCells]
theorem Rb {α : Type} {R : jE α} {E : TypeId} {sz bytes : Nat} {A : BS} {u : Value} {l m : List α} (hT : oh P T E sz bytes) (hs : R.sz = sz) (hx : ρ x = v) (hv : dW R E w A v l) (hy : ρ y = u) (hu : gB R w BE A u m)
    (hA : ∀ b, ob v b → A b) (hb : (l.length + m.length) * bytes ≤ 140737488355328) (hm : l.length + m.length ≤ 9223372036854775807) :
    ∃ v' w', (execOp ρ ⟨d, .call { callee := .builtin .append, args := #[x, y], argTypes := #[T, T] }, ty, pos, af, g⟩).run P w = .ok (.value v') w' ∧ dW R E w' A v' (l ++ m) ∧ aI (ob v) w w' ∧ (∀ b, ob v' b → b < w.heap.size → ob v b) := by
  subst hs
  have hv0 := hv
  obtain ⟨xs, h1, h3⟩ := hv
  rcases hu.row with ⟨rfl, rfl⟩ | ⟨ad, c, news, rfl, n1, n2, n3, n4⟩
  · have hw : (execOp ρ ⟨d, .call { callee := .builtin .append, args := #[x, y], argTypes := #[T, T] }, ty, pos, af, g⟩).run P w = .ok (.value v) w := by
      rcases h1.2 with ⟨rfl, hn⟩ | ⟨gg, cap, cur, rfl, _, _, hc, _⟩
      · exact Dj hT hx (Nat.le_refl _) hy
      · exact Dj hT hx hc hy
    exact ⟨v, w, hw, by simpa using hv0, aI.refl _ _, fun _ hb _ => hb⟩
  · obtain ⟨i, z, hi, hz, hs, hby, hzs⟩ := hT.info
    obtain ⟨v', w', hr, hown, hg, _⟩ := run_append_own (P := P) w 0 T ty E i z R.sz bytes hT.desc hi hz hs hby hzs R.pos v l.length xs h1 ad m.length c news n1 n2 n3 (by unfold maxLen; omega) hb (Nat.zero_le _)
    have hk := Bd hg
    have hnew : ∀ b, ob v' b → b < w.heap.size → ob v b := by
      rcases h1.2 with ⟨rfl, hn⟩ | ⟨gg, cap, cur, rfl, _, hgg, hc, hcm, hcs, htake⟩
      · by_cases hm0 : m.length = 0
        · have hnews : news = [] := List.eq_nil_of_length_eq_zero (by rw [n1, hm0]; simp)
          subst hnews
          have hr2 : (Builtin.append_ #[T, T] ty #[.slice none 0 0, .slice (some ad) m.length c]).run P w = .ok (.slice none 0 0) w := by
            simp [Builtin.append_, underlying, hT.desc, sizeOf, typeInfo, hi, Builtin.lenOf, hm0, Builtin.firstCells, loadCells, loadCellsFrom]
          rw [hr2] at hr
          cases hr
          exact fun b hb _ => hb
        · have hr2 := run_append_nil (P := P) w T ty E i z hT.desc hi hz ad m.length c news (by rw [hs]; exact n1) n2 (by omega) (by omega) (by rw [hby]; have := hb; rw [Nat.add_mul] at this; omega)
          rw [hr2] at hr
          cases hr
          intro b hb hl
          simp [ob] at hb
          omega
      · by_cases hroom : l.length + m.length ≤ cap
        · have hfit : l.length * i.size + news.length ≤ cur.size := by rw [n1, hs, hcs, ← Nat.add_mul]; exact Nat.mul_le_mul_right _ hroom
          have hr2 := run_append_room (P := P) w T ty E i hT.desc hi gg l.length cap cur hgg ad m.length c news (by rw [hs]; exact n1) n2 n3 hroom hfit
          rw [hr2] at hr
          cases hr
          exact fun b hb _ => hb
        · have holds : ∀ j u, xs[j]? = some u → w.cell? ((⟨gg, 0, none⟩ : Addr).add j) = some u := h1.cells (g := gg) rfl
          have hr2 := run_append_grow (P := P) w T ty E i z hT.desc hi hz ⟨gg, 0, none⟩ l.length cap xs (by rw [hs]; exact h1.1) holds ad m.length c news (by rw [hs]; exact n1) n2 (by omega) (by omega) (growslice_fits (by omega) (by rw [hby]; exact hb))
          rw [hr2] at hr
          cases hr
          intro b hb hl
          simp [ob] at hb
          omega
    have hrun : (execOp ρ ⟨d, .call { callee := .builtin .append, args := #[x, y], argTypes := #[T, T] }, ty, pos, af, g⟩).run P w = .ok (.value v') w' := by
      simp only [execOp, resolve, invoke, builtin, Sem.run_bind, Sem.run_pure, Result.andThen_ok, List.map_toArray, List.map_cons, List.map_nil, hx, hy, hr]
    refine ⟨v', w', hrun, ⟨xs ++ news, by rw [List.length_append]; exact hown, ?_⟩, hk, hnew⟩
    intro i hi'
    have hxl := h1.1
    have hA2 : ∀ b, A b ∨ ob v' b → b < w.heap.size → A b ∨ ob v b := fun b hb hl => hb.imp id (fun hb => hnew b hb hl)
    by_cases hil : i < l.length
    · have h5 := R.go (h3 i hil) hk (fun b hb _ => .inr hb) hA2
      have hle : (i + 1) * R.sz ≤ l.length * R.sz := Nat.mul_le_mul_right _ hil
      rw [Nat.add_mul] at hle
      rw [List.getElem_append_left hil, List.drop_append_of_le_length (by omega), List.take_append_of_le_length (by rw [List.length_drop]; omega)]
      exact h5
    · rw [List.length_append] at hi'
      have h5 := R.go (n4 (i - l.length) (by omega)) hk (fun b hb _ => hA b hb) (fun b hb hl => (hA2 b hb hl).elim id (hA b))
      rw [List.getElem_append_right (by omega), List.drop_append, List.drop_eq_nil_of_le (by rw [hxl]; exact Nat.mul_le_mul_right _ (by omega)), List.nil_append, hxl, ← Nat.sub_mul]
      exact h5
theorem SH.xC {α : Type} {R : jE α} {E : TypeId} (h : SH w0 M K w hp) (i : Nat) : SH w0 M K w (bH hp i (.own R E (.slice none 0 0) ([] : List α))) :=
  h.learn i (aI.refl BE w) (fun _ h => h.elim) dW.nil
theorem mo {α : Type} {R : jE α} {E : TypeId} {sz bytes : Nat} {u : Value} {l m : List α} (h : SH w0 M K w hp) (i : Nat) (hi : hp i = .own R E v l) (hu : gB R w BE (SH.A M hp) u m) (hT : oh P T E sz bytes) (hs : R.sz = sz) (hx : ev n env x = v) (hy : ev n env y = u)
    (hb : (l.length + m.length) * bytes ≤ 140737488355328) (hm : l.length + m.length ≤ 9223372036854775807)
    (k : ∀ w' v', SH w0 M K w' (bH hp i (.own R E v' (l ++ m))) → WL P ops Q rest n (jJ env d v') w') :
    WL P ops Q (⟨d, .call { callee := .builtin .append, args := #[x, y], argTypes := #[T, T] }, ty, pos, af, none⟩ :: rest) n env w := by
  obtain ⟨v', w', h1, h2, h3, h4⟩ := Rb (d := d) (ty := ty) (pos := pos) (af := af) (g := none) hT hs hx (h.dD i hi) hy hu (fun b hb => .inr ⟨i, by rw [hi]; exact hb⟩) hb hm
  refine aa h1 (k w' v' (h.step i h3 (fun b hb _ => by rw [hi]; exact hb) (fun b hb hl => by rw [hi]; exact h4 b hb hl) ?_))
  refine dW.go h2 (aI.refl BE w') (fun _ h => h.elim) (fun _ h => h.elim) (fun b hb _ => ?_)
  rcases hb with hb | hb | hb
  · exact .inl (.inl hb)
  · exact .inl (.inr (iW hb))
  · exact .inr hb
theorem UL {α : Type} {R : jE α} {E : TypeId} {sz bytes : Nat} {A : BS} {parts : Array (Nat × Operand)} {len : Nat} {vs : List Value} {xs : List α} (hT : oh P T E sz bytes) (hs : R.sz = sz)
    (hx : (parts.toList.map fun p => (p.1, ev n env p.2)) = vs.zipIdx.map fun p => (p.2, p.1)) (hlen : vs.length = len) (hr : zh R w A vs xs) (hA : ∀ b, A b → b < w.heap.size) (hsm : len * sz ≤ 16777216) :
    ∃ u w', (execOp (ev n env) ⟨d, .buildSlice T len parts, ty, pos, af, g⟩).run P w = .ok (.value u) w' ∧ Grow w w' ∧ dW R E w' A u xs ∧ ∀ b, ob u b → w.heap.size = b := by
  subst hs
  subst hlen
  obtain ⟨i, z, hi, hz, hsz, hby, hzs⟩ := hT.info
  have UM := hr.sizes
  have hlx := hr.len
  let zero : Array Value := if vs.length * R.sz = 0 then #[] else z.cells
  let base : Array Value := (Array.range (vs.length * R.sz)).map (zero[· % zero.size]!)
  have hbase : base.size = vs.length * R.sz := by simp [base]
  obtain ⟨out, ho1, ho2⟩ := Ie R.pos vs 0 base UM (by rw [hbase]; simp)
  have Za := Nk UM
  have ho3 : out.toList = (vs.map fun v => v.cells.toList).flatten := by
    rw [ho2, Nat.zero_mul]
    simp only [Ej, List.take_zero, List.nil_append, Nat.zero_add]
    rw [List.drop_eq_nil_of_le (by rw [Array.length_toList, hbase, Za]; omega), List.append_nil]
  have hos : out.size = vs.length * R.sz := by rw [← Array.length_toList, ho3, Za]
  have hx2 : (parts.map fun p => (p.1, ev n env p.2)).toList = vs.zipIdx.map fun p => (p.2, p.1) := by simpa using hx
  have hrun : (execOp (ev n env) ⟨d, .buildSlice T vs.length parts, ty, pos, af, g⟩).run P w = .ok (.value (.slice (some ⟨w.heap.size, 0, none⟩) vs.length vs.length)) (w.alloc (.cells out E)) := by
    simp only [execOp, Instr.buildSlice, underlying, sizeOf, typeInfo]
    have hns : ¬ (vs.length * R.sz > 2 ^ 24) := by omega
    by_cases h0 : vs.length * R.sz = 0
    · simp only [Sem.run_bind, run_program, Result.andThen_ok, hT.desc, Sem.run_pure, hi, hsz, Sem.run_ite, h0, if_true]
      have : out = #[] := Array.eq_empty_of_size_eq_zero (by rw [hos, h0])
      have e1 : Instr.fill (fun i => some (i * R.sz, R.sz)) ((Array.range 0).map (fun x => (#[] : Array Value)[x % (#[] : Array Value).size]!)) (parts.map fun p => (p.1, ev n env p.2)).toList = some out := by
        rw [hx2]
        have : base = (Array.range 0).map (fun x => (#[] : Array Value)[x % (#[] : Array Value).size]!) := by simp [base, h0]
        rw [← this]; exact ho1
      rw [e1]
      simp [newRow, World.alloc, -World.alloc_eq]
    · simp only [Sem.run_bind, run_program, Result.andThen_ok, hT.desc, Sem.run_pure, hi, hsz, Sem.run_ite, if_neg hns, h0, if_false, zeroValue, typeInfo, hz]
      have e1 : Instr.fill (fun i => some (i * R.sz, R.sz)) ((Array.range (vs.length * R.sz)).map (fun x => z.cells[x % z.cells.size]!)) (parts.map fun p => (p.1, ev n env p.2)).toList = some out := by
        rw [hx2]
        have : base = (Array.range (vs.length * R.sz)).map (fun x => z.cells[x % z.cells.size]!) := by simp [base, zero, h0]
        rw [← this]; exact ho1
      rw [e1]
      simp [newRow, World.alloc, -World.alloc_eq]
  refine ⟨_, _, hrun, Grow.alloc _ _, ⟨out.toList, ⟨by rw [Array.length_toList, hos, hlx], .inr ⟨w.heap.size, vs.length, out, by rw [hlx], Nat.zero_le _, Cw _ _, by omega, ?_, hos, ?_⟩⟩, ?_⟩, ?_⟩
  · unfold maxLen
    have : vs.length ≤ vs.length * R.sz := Nat.le_mul_of_pos_right _ R.pos
    omega
  · rw [List.take_of_length_le]; rw [Array.length_toList, hos, hlx]; exact Nat.le_refl _
  · intro i hi'
    have h5 := R.go (A' := fun b => A b ∨ ob (.slice (some ⟨w.heap.size, 0, none⟩) vs.length vs.length) b) (hr.at i hi') (Grow.alloc w (.cells out E)) (fun _ h => h.elim) (fun b hb hl => by
      rcases hb with hb | hb
      · exact hb
      · simp [ob] at hb; omega)
    rw [ho3]
    exact h5
  · intro b hb; simp [ob] at hb; exact hb.symm
theorem uQ {α : Type} {R : jE α} {E : TypeId} {sz bytes : Nat} {parts : Array (Nat × Operand)} {len : Nat} {vs : List Value} {xs : List α} (h : SH w0 M K w hp) (i : Nat) (hT : oh P T E sz bytes) (hs : R.sz = sz)
    (hx : (parts.toList.map fun p => (p.1, ev n env p.2)) = vs.zipIdx.map fun p => (p.2, p.1)) (hlen : vs.length = len) (hr : zh R w (SH.A M hp) vs xs) (hsm : Nat.ble (len * sz) 16777216 = true)
    (k : ∀ w' u, SH w0 M K w' (bH hp i (.own R E u xs)) → WL P ops Q rest n (jJ env d u) w') :
    WL P ops Q (⟨d, .buildSlice T len parts, ty, pos, af, none⟩ :: rest) n env w := by
  obtain ⟨u, w', h1, h2, h3, h4⟩ := UL (d := d) (ty := ty) (pos := pos) (af := af) (g := none) hT hs hx hlen hr h.lt (Nat.le_of_ble_eq_true hsm)
  exact aa h1 (k w' u (h.jO i h2 h3 (fun b hb => Nat.le_of_eq (h4 b hb))))
theorem run_places {P : Program} {w : World} : ∀ (fs : List Field) (pl : List (Nat × Nat)), fs.map (fun f => (f.offset, (P.info? f.type).map (·.size))) = pl.map (fun p => (p.1, some p.2)) →
    (fs.mapM (m := Sem) fun f => do pure (f.offset, ← sizeOf f.type)).run P w = .ok pl w
  | [], [], _ => rfl
  | [], _ :: _, h => by simp at h
  | _ :: _, [], h => by simp at h
  | f :: fs, p :: pl, h => by
    simp only [List.map_cons, List.cons.injEq, Prod.mk.injEq] at h
    obtain ⟨⟨h1, h2⟩, h3⟩ := h
    have ih := run_places (w := w) fs pl h3
    obtain ⟨i, hi, hs⟩ : ∃ i, P.info? f.type = some i ∧ i.size = p.2 := by
      cases hi : P.info? f.type with
      | none => simp [hi] at h2
      | some i => simp [hi] at h2; exact ⟨i, rfl, h2⟩
    rw [List.mapM_cons]
    simp only [Sem.run_bind, sizeOf, typeInfo, run_program, Result.andThen_ok, hi, Sem.run_pure, hs, h1]
    simp only [sizeOf, typeInfo] at ih
    rw [ih]
    simp
theorem dQ {zs out : List Value} {pl : List (Nat × Nat)} {parts : Array (Nat × Operand)} {pv : List (Nat × Value)} (hT : Struct P T zs pl) (hp : (parts.toList.map fun p => (p.1, ρ p.2)) = pv) (hf : Pp pl zs pv out) :
    (execOp ρ ⟨d, .build T parts, ty, pos, af, g⟩).run P w = .ok (.value (.agg out.toArray)) w := by
  obtain ⟨fs, hfs, hpl⟩ := hT.desc
  obtain ⟨i, hi, hz⟩ : ∃ i, P.info? T = some i ∧ i.zero = some (.agg zs.toArray) := by
    have := hT.zero
    cases hi : P.info? T with
    | none => simp [hi] at this
    | some i => simp [hi] at this; exact ⟨i, rfl, this⟩
  have hm := run_places (w := w) fs.toList pl hpl
  have hm2 : (fs.mapM (m := Sem) fun f => do pure (f.offset, ← sizeOf f.type)).run P w = .ok pl.toArray w := by
    rw [Array.mapM_eq_mapM_toList]
    simp only [Sem.run_map, hm, Result.andThen_ok]
  have hpv : (parts.map fun p => (p.1, ρ p.2)).toList = pv := by rw [← hp]; simp
  have UN := Ra hf
  simp only [execOp, Instr.build, zeroValue, typeInfo, underlying]
  simp only [Sem.run_bind, run_program, Result.andThen_ok, hi, Sem.run_pure, hz, hfs, hm2, hpv, Value.cells]
  have e : (fun (x : Nat) => pl.toArray[x]?) = fun (i : Nat) => pl[i]? := by funext x; simp
  rw [e, UN]
  simp
def isNil : Value → Bool | .slice none _ _ => true | _ => false
theorem LQ {α : Type} {R : jE α} {T2 E : TypeId} {sz : Nat} {B A : BS} {l : List α} {w1 : World} (hT : SliceOf P T E sz) (hx : ρ x = v) (hv : gB R w1 B A v l) (hy : ρ y = .slice none 0 0) : (execOp ρ ⟨d, .binOp .eql T x y T2, ty, pos, af, g⟩).run P w = .ok (.value (.bool (isNil v))) w := by
  obtain ⟨a, cap, rfl, h1, h2, h3, h4⟩ := hv
  have key : ∀ a l c, (Op.equalIn Op.maxDepth T (.slice a l c) (.slice none 0 0)).run P w = .ok a.isNone w := by
    intro a l c
    show (Op.equalIn (9999 + 1) T (.slice a l c) (.slice none 0 0)).run P w = _
    unfold Op.equalIn
    simp only [Sem.run_bind, underlying, run_program, Result.andThen_ok, hT.desc, Sem.run_pure]
    cases a <;> simp
  cases a <;> simp [execOp, hx, hy, eqGuard, binOp, isNil, Op.equal, key]
theorem Al {α : Type} {R : jE α} {B A : BS} {l : List α} (hv : gB R w B A v l) (h : isNil v = true) : v = .slice none 0 0 ∧ l = [] := by
  obtain ⟨a, cap, rfl, h1, h2, h3, h4⟩ := hv
  cases a with
  | none =>
    have := h3 rfl
    subst this
    have hl : l.length = 0 := by omega
    exact ⟨by rw [hl], List.eq_nil_of_length_eq_zero hl⟩
  | some a => simp [isNil] at h
theorem SH.Af {α : Type} {R : jE α} {E : TypeId} {l : List α} {k : Int} {a : α} {b : Nat} (h : SH w0 M K w hp) (i : Nat) (hi : hp i = .own R E v l) (hb : ob v b) (hk : l[k.toNat]? = some a) :
    ∃ cs, At w b (k.toNat * R.sz) cs ∧ R.rd w (SH.A M hp) cs a := by
  have hkl : k.toNat < l.length := by
    rcases Nat.lt_or_ge k.toNat l.length with h | h
    · exact h
    · rw [List.getElem?_eq_none h] at hk; cases hk
  have hla : l[k.toNat] = a := by rw [List.getElem?_eq_getElem hkl] at hk; exact Option.some.inj hk
  obtain ⟨a', cap, rfl, h1, h2, h3, h4⟩ := h.dV i hi
  obtain ⟨b', o, cells, F, fz, rfl, _, e3, e4⟩ := h4 k.toNat hkl
  have : b = b' := hb
  subst this
  have ho : o = 0 := by
    obtain ⟨xs, q1, _⟩ := h.dD i hi
    rcases q1.2 with ⟨e, _⟩ | ⟨_, _, _, e, _⟩
    · cases e
    · cases e; rfl
  subst ho
  rw [hla] at e4
  rw [Nat.zero_add] at e4
  exact ⟨_, ⟨cells, F, fz, e3, by rw [R.len e4]⟩, e4⟩
theorem SH.xy {α : Type} {R : jE α} {E : TypeId} {sz : Nat} {l : List α} {k : Int} {a : α} (h : SH w0 M K w hp) (i : Nat) (hi : hp i = .own R E v l) (hT : SliceOf P T E sz) (hs : R.sz = sz) (hk0 : 0 ≤ k) (hk : l[k.toNat]? = some a) :
    ∃ b, ob v b ∧ ZQ P T v k (.pointer (some ⟨b, k.toNat * sz, none⟩)) := by
  subst hs
  have hkl : k.toNat < l.length := by
    rcases Nat.lt_or_ge k.toNat l.length with h | h
    · exact h
    · rw [List.getElem?_eq_none h] at hk; cases hk
  obtain ⟨xs, q1, _⟩ := h.dD i hi
  rcases q1.2 with ⟨rfl, hn⟩ | ⟨g', cap, cur, rfl, _⟩
  · omega
  refine ⟨g', rfl, fun ρ x y w d ty pos af g hx hy => ?_⟩
  obtain ⟨i, hi, hs⟩ : ∃ i, P.info? E = some i ∧ i.size = R.sz := by
    have := hT.info
    cases hi : P.info? E with
    | none => simp [hi] at this
    | some i => simp [hi] at this; exact ⟨i, rfl, this⟩
  simp only [execOp, Instr.indexAt, hx, hy, asIntOf, underlying, sizeOf, typeInfo]
  have ha : (⟨g', 0, none⟩ : Addr).add (k.toNat * R.sz) = ⟨g', k.toNat * R.sz, none⟩ := by
    unfold Addr.add
    split
    · next hz => rw [hz]
    · simp
  have hk3 : k < (l.length : Int) := by omega
  simp [hT.desc, hi, hs, hk0, hk3, ha]
theorem SH.cutO {α : Type} {R : jE α} {E : TypeId} {sz : Nat} {l : List α} {b : Int} (h : SH w0 M K w hp) (i : Nat) (hi : hp i = .own R E v l) (hT : SliceOf P T E sz) (hs : R.sz = sz) (hb0 : 0 ≤ b) (hb : b ≤ l.length) :
    ∃ u, SH w0 M K w (bH hp i (.own R E u (l.take b.toNat))) ∧ SlOk P T v 0 b l.length u := by
  subst hs
  have hbl : b.toNat ≤ l.length := by omega
  have hlen : (l.take b.toNat).length = b.toNat := by rw [List.length_take]; omega
  obtain ⟨xs, q1, q2⟩ := h.dD i hi
  obtain ⟨u, hu, hr⟩ := r_sl (P := P) (T := T) hT (h.dV i hi) (Int.le_refl 0) hb0 hb
  have hv : ∃ cap, v = .slice none 0 0 ∨ ∃ g, v = .slice (some ⟨g, 0, none⟩) l.length cap := by
    rcases q1.2 with ⟨rfl, _⟩ | ⟨g', cap, cur, rfl, _⟩
    · exact ⟨0, .inl rfl⟩
    · exact ⟨cap, .inr ⟨g', rfl⟩⟩
  have hop := hu (fun o => match o with | .tmp 0 => v | .const v => v | _ => undef) (.tmp 0) none (some (.const (.int .i64 b))) w none 0 "" #[] none rfl (.inl ⟨rfl, rfl⟩) (.inr rfl)
  rcases q1.2 with ⟨rfl, hn⟩ | ⟨g', cap, cur, rfl, e1, e2, e3, e4, e5, e6⟩
  · have hl0 : l = [] := List.eq_nil_of_length_eq_zero hn
    subst hl0
    obtain ⟨a, cap, rfl, h1, h2, h3, h4⟩ := hr
    have hb1 : b = 0 := by simp at hb; omega
    subst hb1
    have : a = none ∧ cap = 0 := by
      obtain ⟨i', hi'⟩ : ∃ i', P.info? E = some i' := by
        have := hT.info
        cases hq : P.info? E with
        | none => simp [hq] at this
        | some i => exact ⟨i, rfl⟩
      simp [execOp, Instr.sliceAt, Instr.slice, underlying, hT.desc, Instr.sliceBounds, Instr.sliceBound, asIntOf, sizeOf, typeInfo, hi', cut] at hop
      exact ⟨hop.1.symm, hop.2.symm⟩
    obtain ⟨rfl, rfl⟩ := this
    refine ⟨_, ?_, hu⟩
    have := h.step (c := .own R E (.slice none 0 0) ([] : List α)) i (aI.refl BE w) (fun _ h => h.elim) (fun _ h => h.elim) dW.nil
    simpa [cut] using this
  · have hu2 : u = .slice (some ⟨g', 0, none⟩) b.toNat cap := by
      obtain ⟨i', hi', his⟩ : ∃ i', P.info? E = some i' ∧ i'.size = R.sz := by
        have := hT.info
        cases hq : P.info? E with
        | none => simp [hq] at this
        | some i => simp [hq] at this; exact ⟨i, rfl, this⟩
      obtain ⟨bn, rfl⟩ := Int.eq_ofNat_of_zero_le hb0
      have hbc : bn ≤ cap := by simp at hbl; omega
      have hadd : (⟨g', 0, none⟩ : Addr).add 0 = ⟨g', 0, none⟩ := rfl
      have h0b : (0 : Int) ≤ (bn : Int) := Int.natCast_nonneg bn
      have hbi : (bn : Int) ≤ (cap : Int) := by omega
      by_cases hc0 : cap = 0
      · subst hc0
        have hb0 : bn = 0 := by omega
        subst hb0
        simp [execOp, Instr.sliceAt, Instr.slice, underlying, hT.desc, Instr.sliceBounds, Instr.sliceBound, asIntOf, sizeOf, typeInfo, hi', his] at hop
        simpa using hop.symm
      · simp [execOp, Instr.sliceAt, Instr.slice, underlying, hT.desc, Instr.sliceBounds, Instr.sliceBound, asIntOf, sizeOf, typeInfo, hi', his, hbc, hc0, hadd] at hop
        simpa using hop.symm
    subst hu2
    refine ⟨_, h.step (c := .own R E (.slice (some ⟨g', 0, none⟩) b.toNat cap) (l.take b.toNat)) i (aI.refl BE w) (fun _ h => h.elim) (fun x hx _ => by rw [hi]; exact hx) ⟨xs.take (b.toNat * R.sz), ⟨?_, .inr ⟨g', cap, cur, by rw [hlen], e1, e2, ?_, e4, e5, ?_⟩⟩, ?_⟩, hu⟩
    · rw [hlen, List.length_take, q1.1, Nat.min_eq_left (Nat.mul_le_mul_right _ hbl)]
    · rw [hlen]; omega
    · rw [hlen, ← e6, List.take_take, Nat.min_eq_left (Nat.mul_le_mul_right _ hbl)]
    · intro j hj
      rw [hlen] at hj
      have hjl : j < l.length := by omega
      have hq := R.go (A' := fun x => (M x ∨ SH.av hp i (.own R E (.slice (some ⟨g', 0, none⟩) b.toNat cap) (l.take b.toNat)) x) ∨ ob (.slice (some ⟨g', 0, none⟩) b.toNat cap) x) (q2 j hjl) (aI.refl BE w) (fun _ h => h.elim) (fun x hx _ => by
        rcases hx with (hx | hx | hx) | hx
        · exact .inl (.inl hx)
        · exact .inl (.inr (iW hx))
        · exact .inr hx
        · exact .inr hx)
      rw [List.getElem_take]
      rw [List.drop_take, List.take_take, Nat.min_eq_left]
      · exact hq
      · have : (j + 1) * R.sz ≤ b.toNat * R.sz := Nat.mul_le_mul_right _ hj
        rw [Nat.add_mul] at this
        omega
theorem Dk {α : Type} {l : List α} {i o s off : Nat} {x : α} (ho : o = i + off) : ((l.set o x).drop i).take s = ((l.drop i).take s).set off x := by
  subst ho
  rw [List.drop_set, if_neg (by omega), Nat.add_sub_cancel_left, List.take_set]
theorem BB {α : Type} {l : List α} {i o s : Nat} {x : α} (h : o < i ∨ i + s ≤ o) : ((l.set o x).drop i).take s = (l.drop i).take s := by
  rw [List.drop_set]
  split
  · rfl
  · rw [List.take_set, List.set_eq_of_length_le]
    rw [List.length_take]; omega
theorem KD {α : Type} {R : jE α} {E : TypeId} {sz : Nat} {l : List α} {k : Int} {a a' : α} {b off : Nat} {z u : Value} (h : SH w0 M K w hp) (i : Nat) (hi : hp i = .own R E u l) (hb : ob u b) (hs : R.sz = sz) (hk : l[k.toNat]? = some a) (hT : One P T z) (hx : ev n env x = .pointer (some ⟨b, k.toNat * sz + off, none⟩))
    (hy : ev n env y = v) (h1 : v.oneCell' = true) (hoff : Nat.blt off sz = true) (hset : ∀ cs, R.rd w (SH.A M hp) cs a → R.rd w (SH.A M hp) (cs.set off v) a')
    (kk : ∀ w', SH w0 M K w' (bH hp i (.own R E u (l.set k.toNat a'))) → WL P ops Q rest n (jJ env d undef) w') :
    WL P ops Q (⟨d, .store T x y, ty, pos, af, none⟩ :: rest) n env w := by
  subst hs
  rw [Nat.blt_eq] at hoff
  have hkl : k.toNat < l.length := by
    rcases Nat.lt_or_ge k.toNat l.length with h | h
    · exact h
    · rw [List.getElem?_eq_none h] at hk; cases hk
  have hla : l[k.toNat] = a := by rw [List.getElem?_eq_getElem hkl] at hk; exact Option.some.inj hk
  generalize k.toNat = k at *
  have hown : ∀ b, ob u b → SH.A M hp b := fun b hb => .inr ⟨i, by rw [hi]; exact hb⟩
  obtain ⟨xs, q1, q3⟩ := h.dD i hi
  rcases q1.2 with ⟨rfl, hn⟩ | ⟨g', cap, cur, rfl, e1, e2, e3, e4, e5, e6⟩
  · omega
  have hgb : b = g' := hb
  subst hgb
  have hle : (k + 1) * R.sz ≤ l.length * R.sz := Nat.mul_le_mul_right _ hkl
  have hcl : l.length * R.sz ≤ cap * R.sz := Nat.mul_le_mul_right _ e3
  rw [Nat.add_mul] at hle
  have hoc : k * R.sz + off < cur.size := by omega
  have hk2 := aI.qW w b (.cells (cur.setIfInBounds (k * R.sz + off) v) E (0, 0))
  refine tJ (El hT hx e2 hoc hy h1) (kk _ (h.step i hk2 (fun x hx _ => by rw [hi]; exact hx) (fun x hx _ => by rw [hi]; exact hx) ⟨xs.set (k * R.sz + off) v, ⟨?_, .inr ⟨b, cap, cur.setIfInBounds (k * R.sz + off) v, ?_, e1, ?_, ?_, e4, ?_, ?_⟩⟩, ?_⟩))
  · rw [List.length_set, List.length_set]; exact q1.1
  · rw [List.length_set]
  · rw [tL (gK e2)]
  · rw [List.length_set]; exact e3
  · simpa using e5
  · rw [List.length_set, Array.toList_setIfInBounds, List.take_set, e6]
  · intro i' hi'
    have hi2 : i' < l.length := by rwa [List.length_set] at hi'
    have hgo := fun cs a (h : R.rd w (SH.A M hp) cs a) => R.go (A' := fun x => (M x ∨ (SH.av hp i (.own R E (.slice (some ⟨b, 0, none⟩) l.length cap) (l.set k a'))) x) ∨ ob (.slice (some ⟨b, 0, none⟩) l.length cap) x) h hk2 (fun x hx _ => hown x hx) (fun x hx _ => by
      rcases hx with (hx | hx | hx) | hx
      · exact .inl hx
      · exact .inr (iW hx)
      · exact hown x hx
      · exact hown x hx)
    have hq := fun j (hj : j < l.length) => R.go (A' := SH.A M hp) (q3 j hj) (aI.refl BE w) (fun _ h => h.elim) (fun x hx _ => .inl hx)
    by_cases hik : i' = k
    · subst hik
      rw [List.getElem_set_self, Dk rfl]
      exact hgo _ _ (hset _ (hla ▸ hq i' hkl))
    · rw [List.getElem_set_ne (Ne.symm hik), BB]
      · exact hgo _ _ (hq i' hi2)
      · rcases Nat.lt_or_ge k i' with h5 | h5
        · left
          have : (k + 1) * R.sz ≤ i' * R.sz := Nat.mul_le_mul_right _ h5
          rw [Nat.add_mul] at this
          omega
        · right
          have : (i' + 1) * R.sz ≤ k * R.sz := Nat.mul_le_mul_right _ (by omega)
          rw [Nat.add_mul] at this
          omega
structure WK (P : Program) (ops : Array Oper) (w : World) (Q : Act → Prop) (l : List Oper) (n : Nat) (env : Nat → Value) : Prop where
  out : wpQuiet P ops (fun x => x = w) Q l (act n env)
end
section
variable {P : Program} {ops : Array Oper}
theorem qf {w : World} {Q : Act → Prop} : ∀ {l : List Oper} {a : Act}, wpQuiet P ops (fun x => x = w) Q l a → wpStill P ops w Q l a
  | [], _, h => h
  | o :: rest, a, h => by
    unfold wpQuiet at h
    unfold wpStill
    split
    · rename_i hw
      rw [if_pos hw] at h
      obtain ⟨v, h1, h2⟩ := h
      have h3 := h1 w rfl
      unfold Oper.quietAt at h3
      unfold Oper.still
      generalize (execOp a.eval o).run P w = r at h3 ⊢
      cases r with
      | ok n w' =>
        cases n <;> simp only [Oper.quietUpon] at h3 <;> simp only [Oper.stillUpon]
        case value u => exact ⟨h3.1, by rw [h3.2]; exact qf h2⟩
        case skip => exact ⟨h3.1, by rw [← h3.2]; exact qf h2⟩
        case enter f args => exact ⟨h3.1, v, h3.2.mono (fun e w'' h => h), qf h2⟩
      | halt x w' => simp only [Oper.quietUpon] at h3
    · rename_i hw
      rw [if_neg hw] at h
      exact qf h
end
section
variable {P : Program} {ops : Array Oper} {Q : Exit → Act → World → Prop} {n : Nat} {env : Nat → Value} {w w' w0 : World} {M K : BS} {hp : Nat → Chunk} {rest : List Oper}
  {d : Option Nat} {op : Op} {ty : TypeId} {pos : String} {af : Array Edge} {v : Value} {g : Option (Nat × Bool)} {T : TypeId} {ρ : Operand → Value} {x y : Operand}
variable {Q1 : Act → Prop}
theorem aM (hr : (execOp (ev n env) ⟨d, op, ty, pos, af, none⟩).run P w = .ok (.value v) w) (h : WK P ops w Q1 rest n (jJ env d v)) : WK P ops w Q1 (⟨d, op, ty, pos, af, none⟩ :: rest) n env := by
  refine ⟨?_⟩
  unfold wpQuiet
  have hw0 : Region.wanted ⟨d, op, ty, pos, af, none⟩ (yielded ops (act n env).tmps) = true := rfl
  rw [if_pos hw0]
  refine ⟨v, fun w' hw => ?_, ?_⟩
  · subst hw
    unfold Oper.quietAt
    rw [gD, hr]
    exact ⟨rfl, rfl⟩
  · rw [vv]; exact h.out
theorem iX {j dj : Nat} {b : Bool} (hd : (ops[j]?).bind (·.dst) = some dj) (hv : ev n env (.tmp dj) = .bool b) (h : WK P ops w Q1 (⟨d, op, ty, pos, af, none⟩ :: rest) n env) : WK P ops w Q1 (⟨d, op, ty, pos, af, some (j, b)⟩ :: rest) n env := by
  have hy := uP (ops := ops) hd hv
  have hw : Region.wanted ⟨d, op, ty, pos, af, some (j, b)⟩ (yielded ops (act n env).tmps) = true := by simp [Region.wanted, hy]
  have hw0 : Region.wanted ⟨d, op, ty, pos, af, none⟩ (yielded ops (act n env).tmps) = true := rfl
  obtain ⟨h⟩ := h
  refine ⟨?_⟩
  unfold wpQuiet at h ⊢
  rw [if_pos hw0] at h
  rw [if_pos hw]
  exact h
theorem Rc (hw : Region.wanted ⟨d, op, ty, pos, af, g⟩ (yielded ops (act n env).tmps) = false) (h : WK P ops w Q1 rest n (jJ env d undef)) : WK P ops w Q1 (⟨d, op, ty, pos, af, g⟩ :: rest) n env := by
  refine ⟨?_⟩
  unfold wpQuiet
  rw [if_neg (by rw [hw]; decide), vv]
  exact h.out
theorem gz {j dj : Nat} {b b' : Bool} (hd : (ops[j]?).bind (·.dst) = some dj) (hv : ev n env (.tmp dj) = .bool b') (hb : (b' == b) = false) (h : WK P ops w Q1 rest n (jJ env d undef)) : WK P ops w Q1 (⟨d, op, ty, pos, af, some (j, b)⟩ :: rest) n env :=
  Rc (by have hy := uP (ops := ops) hd hv; simpa [Region.wanted, hy] using hb) h
theorem Dl {j dj : Nat} (hd : (ops[j]?).bind (·.dst) = some dj) (hu : ev n env (.tmp dj) = undef) : yielded ops (act n env).tmps j = none := by
  unfold yielded
  have h1 : (act n env).eval (.tmp dj) = undef := by rw [gD]; exact hu
  simp only [hd, Option.bind_some]
  simp only [Act.eval] at h1
  cases h2 : (act n env).tmps[dj]? with
  | none => rfl
  | some x => simp [Array.getD_eq_getD_getElem?, h2] at h1; subst h1; rfl
theorem rO {j dj : Nat} {b : Bool} (hd : (ops[j]?).bind (·.dst) = some dj) (hv : ev n env (.tmp dj) = undef) (h : WK P ops w Q1 rest n (jJ env d undef)) : WK P ops w Q1 (⟨d, op, ty, pos, af, some (j, b)⟩ :: rest) n env :=
  Rc (by simp [Region.wanted, Dl hd hv]) h
theorem Re {j dj : Nat} {b : Bool} (hd : (ops[j]?).bind (·.dst) = some dj) (hv : ev n env (.tmp dj) = undef) (h : WL P ops Q rest n (jJ env d undef) w) : WL P ops Q (⟨d, op, ty, pos, af, some (j, b)⟩ :: rest) n env w := by
  have hw : Region.wanted ⟨d, op, ty, pos, af, some (j, b)⟩ (yielded ops (act n env).tmps) = false := by simp [Region.wanted, Dl hd hv]
  refine ⟨?_⟩
  unfold wpList
  rw [if_neg (by rw [hw]; decide), vv]
  exact h.out
theorem Rf {j dj : Nat} {b want : Bool} (c0 : Bool) (hd : (ops[j]?).bind (·.dst) = some dj) (hv : ev n env (.tmp dj) = gv c0 (.bool b))
    (hr : (c0 && (b == want)) = true → (execOp (ev n env) ⟨d, op, ty, pos, af, none⟩).run P w = .ok (.value v) w) (h : WK P ops w Q1 rest n (jJ env d (gv (c0 && (b == want)) v))) :
    WK P ops w Q1 (⟨d, op, ty, pos, af, some (j, want)⟩ :: rest) n env := by
  by_cases hc : (c0 && (b == want)) = true
  · have h0 := gl hc
    have h1 := gr hc
    rw [dz h0] at hv
    rw [dz hc] at h
    have hb : b = want := by simpa using h1
    subst hb
    exact iX hd hv (aM (hr hc) h)
  · have hc' : (c0 && (b == want)) = false := by simpa using hc
    rw [hc'] at h
    cases c0 with
    | true => exact gz hd hv (by simpa using hc') h
    | false => exact rO hd hv h
theorem uR {j dj : Nat} {b want : Bool} (hd : (ops[j]?).bind (·.dst) = some dj) (hv : ev n env (.tmp dj) = .bool b)
    (hr : (b == want) = true → (execOp (ev n env) ⟨d, op, ty, pos, af, none⟩).run P w = .ok (.value v) w) (h : WK P ops w Q1 rest n (jJ env d (gv (b == want) v))) :
    WK P ops w Q1 (⟨d, op, ty, pos, af, some (j, want)⟩ :: rest) n env :=
  Rf true hd hv (fun h => hr (by simpa using h)) (by simpa using h)
theorem Be {l : List Oper} (h : WL P ops Q l n env w) : WK P ops w (fun a => wpList P ops Q l a w) [] n env := ⟨h.out⟩
theorem rP {id : Nat} (k : Nat) {l : List Oper} (hm : P.follows .mixedOrders = true) (hB : Region.lexTailB .any l.toArray k = true) (h : SH w0 M K w hp)
    (kk : ∀ w, SH w0 M K w hp → WK P l.toArray w (fun a => wpList P l.toArray Q (l.drop k) a w) (l.take k) n env) : WC P (Code.region id l.toArray true) Q n env w :=
  ⟨wp_region_still_tail k hm hB (qf (kk _ (h.grow (Grow.drew w))).out)⟩
theorem BC {id : Nat} {l : List Oper} (hm : P.follows .mixedOrders = true) (hB : Region.lexB .any l.toArray = true) (h : SH w0 M K w hp)
    (kk : ∀ w, SH w0 M K w hp → WK P l.toArray w (fun a => ∀ w', w' = w → Q .normal a w') l n env) : WC P (Code.region id l.toArray true) Q n env w :=
  ⟨wp_region_quiet (C := fun x => x = w.drew) hm hB rfl (kk _ (h.grow (Grow.drew w))).out⟩
theorem Am (h : Q .normal (act n env) w) : WK P ops w (fun a => ∀ w', w' = w → Q .normal a w') [] n env := ⟨fun _ e => by rw [e]; exact h⟩
end
end Go.LX
namespace Go.LX
open Go.RowKit
section
variable {P : Program} {ops : Array Oper} {Q : Exit → Act → World → Prop} {n : Nat} {env : Nat → Value} {w w' w0 : World} {M K : BS} {hp : Nat → Chunk} {rest : List Oper}
  {d : Option Nat} {op : Op} {ty : TypeId} {pos : String} {af : Array Edge} {v : Value} {g : Option (Nat × Bool)} {T : TypeId} {ρ : Operand → Value} {x y : Operand}
theorem Em {v : Value} (h : v.oneCell' = true) : v.cells = #[v] := by
  cases v <;> first | rfl | simp [Value.oneCell'] at h
theorem je {v : Value} (h : v.oneCell' = true) : v.cells.toList = [v] := by rw [Em h]
theorem gB.rdc {α : Type} {R : jE α} {A : BS} {l : List α} (h : fu R w A v l) : (mP R).rd w A v.cells.toList l := by
  rw [Em h.one]
  exact ⟨v, rfl, h⟩
theorem Uy {c d : Bool} {v : Value} (h : c = true) : gv (c && d) v = gv d v := by rw [h, Bool.true_and]
theorem aR : ∀ v ∈ ([] : List Value), v.oneCell' = true := fun _ h => by cases h
theorem ai {a : Value} {l : List Value} (h1 : a.oneCell' = true) (h2 : ∀ v ∈ l, v.oneCell' = true) : ∀ v ∈ a :: l, v.oneCell' = true := fun v h => by
  rcases List.mem_cons.1 h with rfl | h
  · exact h1
  · exact h2 v h
def Room {α : Type} (bytes : Nat) (l m : List α) : Prop := (l.length + m.length) * bytes ≤ 140737488355328 ∧ l.length + m.length ≤ 9223372036854775807
instance {α : Type} (bytes : Nat) (l m : List α) : Decidable (Room bytes l m) := inferInstanceAs (Decidable (_ ∧ _))
theorem Room.mk {α : Type} {bytes : Nat} {l m : List α} (h1 : (l.length + m.length) * bytes ≤ 140737488355328) (h2 : l.length + m.length ≤ 9223372036854775807) : Room bytes l m := ⟨h1, h2⟩
theorem set1 {α : Type} {R : jE α} {A : BS} {cs : List Value} {a a' : α} {v : Value} (h : R.rd w A v.cells.toList a') (hq : R.rd w A cs a) (hs : R.sz = 1 := by rfl) (hv : v.oneCell' = true := by assumption) : R.rd w A (cs.set 0 v) a' := by
  have := R.len hq
  rw [hs] at this
  match cs, this with
  | [c], _ => rw [je hv] at h; exact h
theorem r_rem {T2 : TypeId} {p m : Int} (hx : ρ x = .int .i64 p) (hy : ρ y = .int .i64 m) (hm : 0 < m) : (execOp ρ ⟨d, .binOp .rem T x y T2, ty, pos, af, g⟩).run P w = .ok (.value (.int .i64 (Int.tmod p m))) w := by
  have hm0 : m ≠ 0 := by omega
  simp [execOp, hx, hy, eqGuard, binOp, Op.intDiv, hm0]
theorem jK {f : FuncId} {first captured : Array Value} {xs : Array Operand} {ts : Array TypeId} {args : List Value} (hf : gP P f) (hx : ev n env x = .func (.func f) first captured)
    (ha : first.toList ++ xs.toList.map (ev n env) ++ captured.toList = args) (hc : Calls P f args.toArray w (fun e w' => ∃ v, e = .returned v ∧ WL P ops Q rest n (jJ env d v) w')) :
    WL P ops Q (⟨d, .call { callee := .value x, args := xs, argTypes := ts }, ty, pos, af, none⟩ :: rest) n env w :=
  aS hf hx ha hc (fun _ _ h => h)
theorem lN {α : Type} {a b : α} {l m : List α} (h : a = b) (h2 : l = m) : a :: l = b :: m := by rw [h, h2]
theorem Rh {f : FuncId} {first captured : Array Value} {xs : Array Operand} {ts : Array TypeId} {args : List Value} {j dj : Nat} {b want : Bool} (c0 : Bool) (hd : (ops[j]?).bind (·.dst) = some dj) (hv : ev n env (.tmp dj) = gv c0 (.bool b)) (hf : gP P f) (hx : ev n env x = .func (.func f) first captured)
    (ha : (c0 && (b == want)) = true → first.toList ++ xs.toList.map (ev n env) ++ captured.toList = args) (hc : Calls P f args.toArray w (fun e w' => Grow w w' ∧ e = .returned v))
    (k : ∀ w', Grow w w' → WL P ops Q rest n (jJ env d (gv (c0 && (b == want)) v)) w') :
    WL P ops Q (⟨d, .call { callee := .value x, args := xs, argTypes := ts }, ty, pos, af, some (j, want)⟩ :: rest) n env w := by
  by_cases hcc : (c0 && (b == want)) = true
  · have h0 := gl hcc
    have h1 := gr hcc
    rw [dz h0] at hv
    have hb : b = want := by simpa using h1
    subst hb
    refine dH hd hv (aS hf hx (ha hcc) hc ?_)
    rintro e w' ⟨hk, rfl⟩
    refine ⟨_, rfl, ?_⟩
    have := k w' hk
    rw [dz hcc] at this
    exact this
  · have hc' : (c0 && (b == want)) = false := by simpa using hcc
    have h := k w (aI.refl _ _)
    rw [hc'] at h
    cases c0 with
    | true => exact gy hd hv (by simpa using hc') h
    | false => exact Re hd hv h
theorem Nl {f : FuncId} {first captured : Array Value} {xs : Array Operand} {ts : Array TypeId} {args : List Value} {j dj : Nat} {b want : Bool} (hd : (ops[j]?).bind (·.dst) = some dj) (hv : ev n env (.tmp dj) = .bool b) (hf : gP P f) (hx : ev n env x = .func (.func f) first captured)
    (ha : (b == want) = true → first.toList ++ xs.toList.map (ev n env) ++ captured.toList = args) (hc : Calls P f args.toArray w (fun e w' => Grow w w' ∧ e = .returned v))
    (k : ∀ w', Grow w w' → WL P ops Q rest n (jJ env d (gv (b == want) v)) w') :
    WL P ops Q (⟨d, .call { callee := .value x, args := xs, argTypes := ts }, ty, pos, af, some (j, want)⟩ :: rest) n env w :=
  Rh true hd hv hf hx (fun h => ha (by simpa using h)) hc (by simpa using k)
theorem SH.ng {α : Type} {R : jE α} {E : TypeId} {l : List α} (h : SH w0 M BE w hp) (i : Nat) (hi : hp i = .own R E v l) : dW R E w M v l ∧ ∀ b, ob v b → w0.heap.size ≤ b :=
  ⟨dW.go (h.dD i hi) (aI.refl BE w) (fun _ h => h.elim) (fun _ h => h.elim) (fun b hb _ => .inl (.inl hb)), fun b hb => h.fresh i b (by rw [hi]; exact hb)⟩
theorem mh {s : Nat} : ∀ b, ob (.slice none 0 0) b → s ≤ b := fun _ h => h.elim
theorem tN {P : Program} {E : TypeId} {z : Value} {s b : Nat} (h : (P.info? E).map (fun i => (i.zero, i.size, i.bytes)) = some (some z, s, b)) (hz : z.cells.size = s) : ∃ i z, P.info? E = some i ∧ i.zero = some z ∧ i.size = s ∧ i.bytes = b ∧ z.cells.size = s := by
  cases hi : P.info? E with
  | none => simp [hi] at h
  | some i => simp [hi] at h; exact ⟨i, z, rfl, h.1, h.2.1, h.2.2, hz⟩
theorem r_max {T2 : TypeId} {p q : Int} (hx : ρ x = .int .i64 p) (hy : ρ y = .int .i64 q) : (execOp ρ ⟨d, .call { callee := .builtin .max, args := #[x, y], argTypes := #[T, T2] }, ty, pos, af, g⟩).run P w = .ok (.value (.int .i64 (max p q))) w := by
  have h : (if q > p then q else p) = max p q := by split <;> omega
  simp [execOp, resolve, invoke, builtin, Builtin.max_, Builtin.max2, hx, hy, h]
theorem Nn {T2 : TypeId} {p q : Int} (hx : ρ x = .int .i64 p) (hy : ρ y = .int .i64 q) : (execOp ρ ⟨d, .call { callee := .builtin .min, args := #[x, y], argTypes := #[T, T2] }, ty, pos, af, g⟩).run P w = .ok (.value (.int .i64 (min p q))) w := by
  have h : (if q < p then q else p) = min p q := by split <;> omega
  simp [execOp, resolve, invoke, builtin, Builtin.min_, Builtin.min2, hx, hy, h]
theorem Ao {zs vs cs : List Value} {b i : Nat} (h0 : SH w0 M K w hp) (hi : hp i = .blk b cs) (hT : wJ P T zs) (hl : vs.length = zs.length) (hv : cs = vs) : (loadVar T ⟨b, 0, none⟩).run P w = .ok (.agg vs.toArray) w := by
  subst hv
  have h := cK (P := P) (ρ := fun _ => .pointer (some ⟨b, 0, none⟩)) (d := none) (ty := 0) (pos := "") (af := #[]) (g := none) (x := .tmp 0) (o := 0) (vs := cs) h0 i hi hT rfl (by rw [← hl]; simp) hl
  simp only [execOp, Instr.loadAt, Instr.sureAddr] at h
  have h2 : ((loadVar T ⟨b, 0, none⟩).run P w).andThen (fun a w' => Result.ok (Next.value a) w') = Result.ok (Next.value (Value.agg cs.toArray)) w := by simpa using h
  cases hres : (loadVar T ⟨b, 0, none⟩).run P w with
  | ok v w' => rw [hres] at h2; simp at h2; rw [h2.1, h2.2]
  | halt x w' => rw [hres] at h2; simp [Result.andThen] at h2
theorem SH.zi {α : Type} {R : jE α} {E : TypeId} {l : List α} (h : SH w0 M K w hp) (j i : Nat) (hj : hp j = .own R E v l) (hi : hp i = .no) (hij : j ≠ i) : SH w0 M K w (bH (bH hp j .no) i (.own R E v l)) := by
  have ho := h.dD j hj
  have key : ∀ x b, (bH (bH hp j .no) i (.own R E v l) x).own' b → ∃ y, (hp y).own' b ∧ (x = i → y = j) ∧ (x ≠ i → y = x ∧ x ≠ j) := by
    intro x b hb
    by_cases e : x = i
    · subst e; rw [bI] at hb; exact ⟨j, by rw [hj]; exact hb, fun _ => rfl, fun h => absurd rfl h⟩
    · rw [di e] at hb
      by_cases e2 : x = j
      · subst e2; rw [bI] at hb; exact hb.elim
      · rw [di e2] at hb; exact ⟨x, hb, fun h => absurd h e, fun _ => ⟨rfl, e2⟩⟩
  have hall : ∀ b, eQ (bH (bH hp j .no) i (.own R E v l)) b → eQ hp b := fun b ⟨x, hx⟩ => let ⟨y, hy, _⟩ := key x b hx; ⟨y, hy⟩
  refine ⟨h.keep, h.XG, fun x b hb => let ⟨y, hy, _⟩ := key x b hb; h.Pn y b hy, fun x => ?_, fun x y hxy b hx hy => ?_, fun x b hb => let ⟨y, hy, _⟩ := key x b hb; h.old y b hy⟩
  · by_cases e : x = i
    · subst e; rw [bI]
      have := h.ok j
      rw [hj] at this
      exact Chunk.sub this (fun b hb _ => hall b hb)
    · rw [di e]
      by_cases e2 : x = j
      · subst e2; rw [bI]; trivial
      · rw [di e2]; exact Chunk.sub (h.ok x) (fun b hb _ => hall b hb)
  · obtain ⟨x', h1, h2, h3⟩ := key x b hx
    obtain ⟨y', k1, k2, k3⟩ := key y b hy
    have : x' ≠ y' := by
      by_cases e : x = i
      · have e2 : y ≠ i := fun h => hxy (e.trans h.symm)
        rw [h2 e, (k3 e2).1]; exact fun h => (k3 e2).2 h.symm
      · by_cases e2 : y = i
        · rw [k2 e2, (h3 e).1]; exact (h3 e).2
        · rw [(h3 e).1, (k3 e2).1]; exact hxy
    exact h.apart x' y' this b h1 k1
theorem SH.Ri {α : Type} {R : jE α} {l : List α} (h : SH w0 M K w hp) (j i : Nat) (hj : hp j = .rd R v l) : SH w0 M K w (bH hp i (.rd R v l)) := h.bX i (h.fo j hj)
theorem SH.UO {α : Type} {R : jE α} {l : List α} (h : SH w0 M K w hp) (i : Nat) (hi : hp i = .rd R v l) : fu R w M v l :=
  (h.fo i hi).sub (fun b hb _ => .inl hb) (fun b hb _ => .inl hb)
def clone {α : Type} (bytes : Nat) (a : List α) : Option (List α) := gL (Room bytes ([] : List α) a) (some a)
structure Rj (P : Program) (T : TypeId) : Prop where
  desc : ∃ f0 f1, P.underlying T = some (.struct #[f0, f1]) ∧ f0.name ≠ "_" ∧ f1.name ≠ "_" ∧ f0.offset = 0 ∧ f1.offset = 1 ∧ P.underlying f0.type = some (.int .i64) ∧ P.underlying f1.type = some (.int .i64) ∧ P.plainKey f0.type = true ∧ P.plainKey f1.type = true
  stood : P.stoodInHeld T = false
  guard : P.eqGuardType P.depth T = false
theorem Np (hT : Rj P T) (a b c e : Int) : (Op.equalIn 10000 T (.agg #[.int .i64 a, .int .i64 b]) (.agg #[.int .i64 c, .int .i64 e])).run P w = .ok (decide (a = c) && decide (b = e)) w := by
  obtain ⟨f0, f1, h1, n0, n1, o0, o1, u0, u1, k0, k1⟩ := hT.desc
  have hF : P.fieldsOf T = #[f0, f1] := by simp [Program.fieldsOf, h1]
  rw [show (10000 : Nat) = 9999 + 1 from rfl, run_equalIn_agg w 9999 T _ _ (by rw [hF]; exact h1) hT.stood, hF]
  simp only [Op.eqFields, n0, n1, ne_eq, not_false_eq_true, if_true, o0, o1, Sem.run_bind]
  rw [run_part_plain w k0 (xs := #[.int .i64 a, .int .i64 b]) (off := 0) (v := .int .i64 a) rfl]
  simp only [Result.andThen_ok]
  rw [run_part_plain w k0 (xs := #[.int .i64 c, .int .i64 e]) (off := 0) (v := .int .i64 c) rfl]
  simp only [Result.andThen_ok]
  rw [show (9999 : Nat) = 9998 + 1 from rfl, run_equalIn_int w 9998 f0.type .i64 .i64 a c u0]
  simp only [Result.andThen_ok, Sem.run_ite, Sem.run_bind]
  by_cases h : a = c
  · subst h
    simp only [beq_self_eq_true, Bool.not_true, Bool.false_eq_true, if_false]
    rw [run_part_plain w k1 (xs := #[.int .i64 a, .int .i64 b]) (off := 1) (v := .int .i64 b) rfl]
    simp only [Result.andThen_ok]
    rw [run_part_plain w k1 (xs := #[.int .i64 a, .int .i64 e]) (off := 1) (v := .int .i64 e) rfl]
    simp only [Result.andThen_ok]
    rw [run_equalIn_int w 9998 f1.type .i64 .i64 b e u1]
    by_cases h2 : b = e <;> simp [h2]
  · simp [h]
theorem ZT {T2 : TypeId} {a b c e : Int} (hT : Rj P T) (hx : ρ x = .agg #[.int .i64 a, .int .i64 b]) (hy : ρ y = .agg #[.int .i64 c, .int .i64 e]) : (execOp ρ ⟨d, .binOp .eql T x y T2, ty, pos, af, g⟩).run P w = .ok (.value (.bool (decide (a = c) && decide (b = e)))) w := by
  simp only [execOp, hx, hy, Sem.run_bind, run_eqGuard_agg w .eql T x y _ _ hT.guard, Result.andThen_ok, run_eql_struct, Np hT]
  simp
theorem ZU {T2 : TypeId} {a b c e : Int} (hT : Rj P T) (hx : ρ x = .agg #[.int .i64 a, .int .i64 b]) (hy : ρ y = .agg #[.int .i64 c, .int .i64 e]) : (execOp ρ ⟨d, .binOp .neq T x y T2, ty, pos, af, g⟩).run P w = .ok (.value (.bool (!(decide (a = c) && decide (b = e))))) w := by
  simp only [execOp, hx, hy, Sem.run_bind, run_eqGuard_agg w .neq T x y _ _ hT.guard, Result.andThen_ok, run_neq_struct, Np hT]
  simp
end
section
variable {σ : Type} {n : Nat} {e GV : Nat → Value} {mod : Nat → Bool} {live : σ → List (Nat × Value)} {J : σ → World → Prop} {w : World}
theorem bP (s : σ) (hJ : J s w) (hH : Holds e (live s) := by repeat (first | exact trivial | refine ⟨rfl, ?_⟩))
    (hA : yl mod e GV := by repeat (first | (with_reducible exact yl.refl _ _) | (with_reducible exact yl.Q6 _ _ _) | (with_reducible refine yl.on ?_) | ((with_reducible refine yl.hin ?_ ?_); rfl) | (with_reducible refine yl.un ?_) | ((with_reducible refine yl.os ?_ ?_); rfl) | ((with_reducible refine yl.uc ?_ ?_); rfl))) :
    JP n mod GV live J (act n e) w := ⟨s, e, rfl, hA, hH, hJ⟩
theorem jV {μ : σ → Nat} {s0 : σ} (s : σ) (hJ : J s w) (hμ : μ s < μ s0 := by dsimp only; omega) (hH : Holds e (live s) := by repeat (first | exact trivial | refine ⟨rfl, ?_⟩))
    (hA : yl mod e GV := by repeat (first | (with_reducible exact yl.refl _ _) | (with_reducible exact yl.Q6 _ _ _) | (with_reducible refine yl.on ?_) | ((with_reducible refine yl.hin ?_ ?_); rfl) | (with_reducible refine yl.un ?_) | ((with_reducible refine yl.os ?_ ?_); rfl) | ((with_reducible refine yl.uc ?_ ?_); rfl))) :
    JL n mod GV live J μ s0 (act n e) w := ⟨s, e, rfl, hA, hH, hJ, hμ⟩
end
theorem SH.cn {w0 w : World} {M K : BS} {hp : Nat → Chunk} (h : SH w0 M K w hp) (l : List (Nat × Chunk)) (hl : LK hp l := by repeat (first | exact trivial | refine ⟨rfl, ?_⟩)) : SH w0 M K w (hset l) := h.canon l hl
section
variable {α β σ ρ : Type}
theorem fV {l : List α} {k : Nat} (h : decide ((k : Int) < (l.length : Int)) = true) : ∃ x, l[k]? = some x ∧ l.drop k = x :: l.drop (k + 1) := by
  have hk : k < l.length := by have := of_decide_eq_true h; omega
  exact ⟨l[k], List.getElem?_eq_getElem hk, List.drop_eq_getElem_cons hk⟩
theorem fZ {l : List α} {k : Nat} (h : decide ((k : Int) < (l.length : Int)) = false) : l.drop k = [] := by
  have := of_decide_eq_false h
  exact List.drop_eq_nil_of_le (by omega)
theorem dI {body : α → σ → (σ → ρ) → ρ} {k : σ → ρ} {x : α} {l : List α} {s : σ} : each body k (x :: l) s = body x s (each body k l) := rfl
theorem gG {body : α → σ → (σ → ρ) → ρ} {k : σ → ρ} {s : σ} : each body k [] s = k s := rfl
theorem iT {body : Int → α → σ → (σ → ρ) → ρ} {k : σ → ρ} {x : α} {l : List α} {s : σ} {i : Int} : eO body k i (x :: l) s = body i x s (eO body k (i + 1) l) := rfl
theorem ni {body : Int → α → σ → (σ → ρ) → ρ} {k : σ → ρ} {s : σ} {i : Int} : eO body k i [] s = k s := rfl
theorem vw {body : Int → σ → (σ → ρ) → ρ} {k : σ → ρ} {s : σ} {i : Int} {j m : Nat} (h : j < m) : upto body k i (m - j) s = body i s (upto body k (i + 1) (m - (j + 1))) := by
  rw [show m - j = (m - (j + 1)) + 1 by omega]; rfl
theorem vz {body : Int → σ → (σ → ρ) → ρ} {k : σ → ρ} {s : σ} {i : Int} {j m : Nat} (h : m ≤ j) : upto body k i (m - j) s = k s := by
  rw [show m - j = 0 by omega]; rfl
theorem pG {body : σ → (σ → Option β) → Option β} {m : Nat} {s : σ} {r : β} (h : again body m s = some r) : ∃ m', m = m' + 1 ∧ body s (again body m') = some r := by
  cases m with
  | zero => cases h
  | succ m => exact ⟨m, rfl, h⟩
theorem gm {l : List α} {k : Nat} {i : Int} {x : α} (hi : i = (k : Int)) (h : l[k]? = some x) : l[i.toNat]? = some x := by subst hi; simpa using h
theorem iO {k : Nat} {i : Int} (hi : i = (k : Int)) : 0 ≤ i := by omega
theorem gp {l : List α} {k : Nat} {i : Int} (hl : l.length ≤ 9223372036854775807) (hi : i = (k : Int)) (hk : decide (i < (l.length : Int)) = true) : jN (i + 1) := by
  have := of_decide_eq_true hk
  exact ⟨by omega, by omega⟩
end
end Go.LX
namespace Go.LX
open Go.RowKit
section
variable {P : Program} {ops : Array Oper} {C : World → Prop} {Q : Exit → Act → World → Prop} {n : Nat} {env : Nat → Value} {w w' : World} {rest : List Oper}
  {d : Option Nat} {op : Op} {ty : TypeId} {pos : String} {af : Array Edge} {v : Value} {g : Option (Nat × Bool)} {T : TypeId} {ρ : Operand → Value}
structure Raw (w : World) (gg cap sz : Nat) (E : TypeId) (cur : List Value) : Prop where
  blk : w.heap[gg]? = some (.cells cur.toArray E (0, 0))
  len : cur.length = cap * sz
  le : cap ≤ maxLen
end
theorem Raw.keep {w w' : World} {gg cap sz : Nat} {E : TypeId} {cur : List Value} {N : BS} (h : Raw w gg cap sz E cur) (hk : aI N w w') (hn : ¬ N gg) : Raw w' gg cap sz E cur := ⟨hk.blk h.blk hn, h.len, h.le⟩
section
variable {P : Program} {Q : Exit → Act → World → Prop} {n : Nat} {env : Nat → Value} {w w' w0 : World} {M K : BS} {hp : Nat → Chunk}
theorem SH.UQ {α β : Type} {R : jE α} {R' : jE β} {E : TypeId} {v u : Value} {l : List α} {l' : List β} (h : SH w0 M K w hp) (i j : Nat) (hi : hp i = .rd R v l) (hj : hp j = .own R' E u l') : fu R w (fun b => M b ∨ ob u b) v l :=
  (h.fo i hi).sub (fun b hb _ => hb.elim .inl (fun hb => .inr ⟨j, by rw [hj]; exact hb⟩)) (fun b hb _ => hb.elim .inl (fun hb => .inr ⟨j, by rw [hj]; exact hb⟩))
theorem fu.Rk {α β : Type} {R : jE α} {R' : jE β} {E : TypeId} {v u : Value} {l : List α} {l' : List β} {i : Nat} (h : fu R w (fun b => SH.A M hp b ∨ ob u b) v l) : fu R w (SH.A M (bH hp i (.own R' E u l'))) v l := by
  have key : ∀ b, SH.A M (bH hp i (.own R' E u l')) b → SH.A M hp b ∨ ob u b := by
    rintro b (hb | ⟨j, hb⟩)
    · exact .inl (.inl hb)
    · by_cases e : j = i
      · subst e; rw [bI] at hb; exact .inr hb
      · rw [di e] at hb; exact .inl (.inr ⟨j, hb⟩)
  exact h.sub (fun b hb _ => key b hb) (fun b hb _ => key b hb)
theorem SH.GX {α : Type} {R : jE α} {v : Value} {l : List α} (h : SH w0 M K w hp) (j i : Nat) (hj : hp j = .rd R v l) : SH w0 M K w (bH hp i (.sr R v l)) :=
  h.know i (fun _ h => h) (gB.sub (h.fo j hj) (fun b hb _ => .inr hb) (fun b hb _ => hb))
theorem SH.Bf {α : Type} {R : jE α} {v : Value} {l : List α} (h : SH w0 M K w hp) (j i : Nat) (hj : hp j = .sr R v l) : SH w0 M K w (bH hp i (.sr R v l)) :=
  h.know i (fun _ h => h) (h.Dr j hj)
end
end Go.LX
namespace Go.LX
open Go.RowKit
def ZV (K : Act → World → Prop) (Q : Exit → Act → World → Prop) : Exit → Act → World → Prop
  | .normal, a, w => K a w
  | e, a, w => Q e a w
section
variable {P : Program} {ops : Array Oper}
variable {Q : Exit → Act → World → Prop} {n : Nat} {env : Nat → Value} {w w0 : World} {M K : BS} {hp : Nat → Chunk}
structure WH (P : Program) (ops : Array Oper) (ws : World) (Q : Exit → Act → World → Prop) (fuel : Nat) (listed : Array Bool) (n : Nat) (env : Nat → Value) (w : World) : Prop where
  out : wpAnyH P .any ops (NoPanic Q) (Grow ws) fuel listed (act n env) w
theorem Ap {id : Nat} {l : List Oper} (hm : P.follows .mixedOrders = true) (h0 : SH w0 M K w hp)
    (h : ∀ w, SH w0 M K w hp → WH P l.toArray w Q l.length (Array.replicate l.length false) n env w) : WC P (Code.region id l.toArray true) Q n env w :=
  ⟨wp_region_noPanic (wp_region_held (S := Grow w.drew) hm (h _ (h0.grow (Grow.drew w))).out)⟩
theorem KE {S S' : World → Prop} (hS : ∀ w, S' w → S w) : ∀ (fuel : Nat) (listed : Array Bool) (a : Act) (w : World), wpAnyH P .any ops Q S' fuel listed a w → wpAnyH P .any ops Q S fuel listed a w
  | 0, _, _, _, h => h
  | fuel + 1, _, _, _, h => ⟨h.1, fun i hi => wpOp_mono (fun a' w' h' => ⟨hS _ h'.1, KE hS fuel _ a' w' h'.2⟩) (h.2 i hi)⟩
variable {d : Option Nat} {op : Op} {ty : TypeId} {pos : String} {af : Array Edge} {v : Value} {g : Option (Nat × Bool)} {i fuel : Nat} {listed : Array Bool}
theorem aj : Region.wanted ⟨d, op, ty, pos, af, none⟩ (yielded ops (act n env).tmps) = true := rfl
theorem mQ {j dj : Nat} {b : Bool} (hd : (ops[j]?).bind (·.dst) = some dj) (hv : ev n env (.tmp dj) = .bool b) : Region.wanted ⟨d, op, ty, pos, af, some (j, b)⟩ (yielded ops (act n env).tmps) = true := by
  have hy := uP (ops := ops) hd hv
  simp [Region.wanted, hy]
theorem gH {j dj : Nat} {b b' : Bool} (hd : (ops[j]?).bind (·.dst) = some dj) (hv : ev n env (.tmp dj) = .bool b') (hb : (b' == b) = false) : Region.wanted ⟨d, op, ty, pos, af, some (j, b)⟩ (yielded ops (act n env).tmps) = false := by
  have hy := uP (ops := ops) hd hv
  simpa [Region.wanted, hy] using hb
theorem Nq {ws : World} {o : Oper} (hS : Grow ws w) (hi : ops[i]? = some o) (hs : Region.noSelect ops = true) (hf : Region.free .any ops listed i = true) (hr : (Region.ready .any ops listed).contains i = true)
    (hy : YieldsIf P ops (Grow ws) o v (act n env)) (h : WH P ops ws Q fuel (listed.setIfInBounds i true) n (jJ env o.dst v) w) : WH P ops ws Q (fuel + 1) listed n env w := by
  refine ⟨wpAnyH_take hi hs hf hr (fun _ _ _ h => h) hy hS ?_⟩
  rw [vv]
  exact h.out
theorem eP {ws : World} (i : Nat) (hS : Grow ws w) (hi : ops[i]? = some ⟨d, op, ty, pos, af, g⟩) (hw : Region.wanted ⟨d, op, ty, pos, af, g⟩ (yielded ops (act n env).tmps) = true) (hs : Region.noSelect ops = true) (hf : Region.free .any ops listed i = true) (hr : (Region.ready .any ops listed).contains i = true)
    (he : ∀ wq, Grow ws wq → (execOp (ev n env) ⟨d, op, ty, pos, af, g⟩).run P wq = .ok (.value v) wq) (h : WH P ops ws Q fuel (listed.setIfInBounds i true) n (jJ env d v) w) : WH P ops ws Q (fuel + 1) listed n env w :=
  Nq (o := ⟨d, op, ty, pos, af, g⟩) hS hi hs hf hr (.inl ⟨hw, fun wq hq => by rw [gD]; exact he wq hq⟩) h
theorem iL {ws : World} (i : Nat) (hS : Grow ws w) (hi : ops[i]? = some ⟨d, op, ty, pos, af, g⟩) (hw : Region.wanted ⟨d, op, ty, pos, af, g⟩ (yielded ops (act n env).tmps) = false) (hs : Region.noSelect ops = true) (hf : Region.free .any ops listed i = true) (hr : (Region.ready .any ops listed).contains i = true)
    (h : WH P ops ws Q fuel (listed.setIfInBounds i true) n (jJ env d undef) w) : WH P ops ws Q (fuel + 1) listed n env w :=
  Nq (o := ⟨d, op, ty, pos, af, g⟩) hS hi hs hf hr (.inr ⟨hw, rfl⟩) h
theorem qH {ws : World} (hr : Region.ready .any ops listed = []) (h : Q .normal (act n env) w) : WH P ops ws Q fuel listed n env w := ⟨wpAnyH_done hr (NoPanic.normal h) fuel⟩
def after (P : Program) (ops : Array Oper) (ws : World) (Q : Exit → Act → World → Prop) (fuel : Nat) (listed : Array Bool) : Exit → Act → World → Prop :=
  ZV (fun a' w' => Grow ws w' ∧ wpAnyH P .any ops (NoPanic Q) (Grow ws) fuel listed a' w') (NoPanic Q)
theorem iF {ws : World} (hg : Grow ws w) (h : WH P ops ws Q fuel listed n env w) : after P ops ws Q fuel listed .normal (act n env) w := ⟨hg, h.out⟩
theorem zk {K : Act → World → Prop} {Q1 : Exit → Act → World → Prop} (hi : ops[i]? = some ⟨d, op, ty, pos, af, g⟩) (hw : Region.wanted ⟨d, op, ty, pos, af, g⟩ (yielded ops (act n env).tmps) = true)
    (h : WL P ops (ZV K Q1) [⟨d, op, ty, pos, af, none⟩] n env w) : wpOp P ops Q1 i K (act n env) w := by
  unfold wpOp
  simp only [hi, hw, if_true]
  have h1 := h.out
  unfold wpList at h1
  rw [if_pos (show Region.wanted _ _ = true from rfl)] at h1
  rcases h1 with h1 | ⟨ha, hl⟩
  rotate_left
  · exact .inr ⟨ha, let ⟨a, w, h⟩ := hl; ⟨a, w, h⟩⟩
  refine .inl ?_
  unfold Oper.wp at h1 ⊢
  have e : (execOp (act n env).eval ⟨d, op, ty, pos, af, g⟩) = execOp (act n env).eval ⟨d, op, ty, pos, af, none⟩ := by unfold execOp; rfl
  rw [e]
  generalize (execOp (act n env).eval ⟨d, op, ty, pos, af, none⟩).run P w = r at h1 ⊢
  cases r with
  | ok nx w' =>
    cases nx with
    | value v => exact h1
    | skip => exact h1
    | defer d => exact h1
    | enter f args =>
      refine Calls.mono h1 (fun e w2 h2 => ?_)
      cases e with
      | returned v => exact h2
      | panicked c => exact h2
      | outgrown => exact h2
    | row r args => exact h1
    | _ => exact h1
  | halt x w' =>
    cases x <;> exact h1
theorem kM {ws : World} (i : Nat) (hr : Region.ready .any ops listed = [i]) (hi : ops[i]? = some ⟨d, op, ty, pos, af, g⟩) (hw : Region.wanted ⟨d, op, ty, pos, af, g⟩ (yielded ops (act n env).tmps) = true)
    (h : WL P ops (after P ops ws Q fuel (listed.setIfInBounds i true)) [⟨d, op, ty, pos, af, none⟩] n env w) : WH P ops ws Q (fuel + 1) listed n env w := by
  refine ⟨wpAnyH_all hr (by simp) (fun k hk => ?_)⟩
  obtain rfl : k = i := by simpa using hk
  exact zk hi hw h
theorem Rl {ws : World} {d' : Option Nat} {op' : Op} {ty' : TypeId} {pos' : String} {ZW : Array Edge} {g' : Option (Nat × Bool)} (i j : Nat) (hr : Region.ready .any ops listed = [i, j]) (hi : ops[i]? = some ⟨d, op, ty, pos, af, g⟩) (hw : Region.wanted ⟨d, op, ty, pos, af, g⟩ (yielded ops (act n env).tmps) = true)
    (hj : ops[j]? = some ⟨d', op', ty', pos', ZW, g'⟩) (hw' : Region.wanted ⟨d', op', ty', pos', ZW, g'⟩ (yielded ops (act n env).tmps) = true)
    (h : WL P ops (after P ops ws Q fuel (listed.setIfInBounds i true)) [⟨d, op, ty, pos, af, none⟩] n env w) (h' : WL P ops (after P ops ws Q fuel (listed.setIfInBounds j true)) [⟨d', op', ty', pos', ZW, none⟩] n env w) : WH P ops ws Q (fuel + 1) listed n env w := by
  refine ⟨wpAnyH_all hr (by simp) (fun k hk => ?_)⟩
  rcases List.mem_cons.1 hk with rfl | hk
  · exact zk hi hw h
  · obtain rfl : k = j := by simpa using hk
    exact zk hj hw' h'
theorem LU {ws : World} (hg : Grow ws w) (h : WH P ops w Q fuel listed n env w) : WH P ops ws Q fuel listed n env w := ⟨KE (fun _ h => hg.trans h) _ _ _ _ h.out⟩
theorem En {ws a : World} (e : a = ws) (h : WH P ops ws Q fuel listed n env w) : WH P ops a Q fuel listed n env w := e ▸ h
variable {w' : World} {rest : List Oper} {T : TypeId} {x y : Operand}
theorem Bg {α : Type} {R : jE α} {E : TypeId} {sz bytes : Nat} {parts : Array (Nat × Operand)} {len : Nat} {vs : List Value} {xs : List α} (h : SH w0 M K w hp) (i : Nat) (hT : oh P T E sz bytes) (hs : R.sz = sz)
    (hx : (parts.toList.map fun p => (p.1, ev n env p.2)) = vs.zipIdx.map fun p => (p.2, p.1)) (hlen : vs.length = len) (hr : zh R w (SH.A M hp) vs xs) (hsm : Nat.ble (len * sz) 16777216 = true)
    (k : ∀ w' u, SH w0 M K w' (bH hp i (.own R E u xs)) → Grow w w' → (∀ b, ob u b → w.heap.size ≤ b) → WL P ops Q rest n (jJ env d u) w') :
    WL P ops Q (⟨d, .buildSlice T len parts, ty, pos, af, none⟩ :: rest) n env w := by
  obtain ⟨u, w', h1, h2, h3, h4⟩ := UL (d := d) (ty := ty) (pos := pos) (af := af) (g := none) hT hs hx hlen hr h.lt (Nat.le_of_ble_eq_true hsm)
  exact aa h1 (k w' u (h.jO i h2 h3 (fun b hb => Nat.le_of_eq (h4 b hb))) h2 (fun b hb => Nat.le_of_eq (h4 b hb)))
theorem aI.fresh {a b c : World} {N : BS} (h : Grow a b) (k : aI N b c) (hN : ∀ x, N x → a.heap.size ≤ x) : Grow a c := h.step k (fun x hx hl => by have := hN x hx; omega)
end
end Go.LX
namespace Go.LX
open Go.RowKit Go.Deep
def wW {α : Type} (P : Program) (T : TypeId) (R : jE α) : Prop :=
  ∀ (H : Type) (enc : TypeId × Value → H) (w : World) (spare : Nat → Bool) (held : Bool) (fuel : Nat) (cs : List Value) (x : DataW H × List MemPlace), DataW.trod enc P w 0 spare held fuel T cs = some x → ∃ d, R.rd w BE cs d
theorem Sg {P : Program} {T : TypeId} (ht : P.underlying T = some (.int .i64)) : wW P T dU := by
  intro H enc w spare held fuel cs x h
  obtain ⟨n, rfl, _, hw⟩ := DataW.trod_int ht h
  exact ⟨n, rfl⟩
theorem sF {α : Type} {P : Program} {T E : TypeId} {R : jE α} (ht : P.underlying T = some (.slice E)) (hc : P.cellsOf E = R.sz) (h : wW P E R) : wW P T (mP R) := by
  intro H enc w spare held fuel cs x hx
  rcases open_slice ht hx with ⟨rfl, rfl⟩ | ⟨a, len, cap, m, n, D, Pl, rfl, _, hl, hm, hmm, rfl, hel⟩
  · exact ⟨[], _, rfl, gB.nil⟩
  · have hlm : len ≤ m := by rw [hmm]; split <;> omega
    have key : ∀ i, i < len → ∃ d : α, ∃ b o cells F fz, a = ⟨b, o, none⟩ ∧ w.heap[b]? = some (.cells cells F fz) ∧ R.rd w BE ((cells.toList.drop (o + i * R.sz)).take R.sz) d := by
      intro i hi
      obtain ⟨cs', h1, h2⟩ := hel i (by omega)
      obtain ⟨d, hd⟩ := h H enc w spare held n cs' _ h2
      refine ⟨d, ?_⟩
      rw [hc] at h1
      obtain ⟨_, hlen, hcell⟩ := World.cells?_some h1
      have hp := R.pos
      have hsp : a.spot = none := by
        obtain ⟨cs0, g1, _⟩ := hel 0 (by omega)
        rw [hc] at g1
        obtain ⟨_, glen, gcell⟩ := World.cells?_some g1
        have g0 := gcell 0 hp
        rw [Nat.zero_mul, add_add, Nat.zero_add] at g0
        have : ∃ v, cs0[0]? = some v := ⟨cs0[0]'(by omega), List.getElem?_eq_getElem (by omega)⟩
        obtain ⟨v, hv⟩ := this
        rw [hv] at g0
        have := World.cell?_spot g0
        simpa [Addr.add] using this
      obtain ⟨b, o, sp⟩ := a
      simp only at hsp
      subst hsp
      have hadd : ∀ k, (⟨b, o, none⟩ : Addr).add k = ⟨b, o + k, none⟩ := by
        intro k; unfold Addr.add; split <;> simp_all
      have hc0 : ∀ j, j < R.sz → w.cell? ⟨b, o + i * R.sz + j, none⟩ = cs'[j]? := by
        intro j hj
        have := hcell j hj
        rw [add_add, hadd] at this
        rw [← this, Nat.add_assoc]
      have h0 := hc0 0 hp
      have hv : cs'[0]? = some (cs'[0]'(by omega)) := List.getElem?_eq_getElem (by omega)
      rw [hv] at h0
      unfold World.cell? at h0
      cases hb : w.heap[b]? with
      | none => simp [hb] at h0
      | some ob =>
        cases ob with
        | cells cells F fz =>
          refine ⟨b, o, cells, F, fz, rfl, hb, ?_⟩
          have e : (cells.toList.drop (o + i * R.sz)).take R.sz = cs' := by
            apply List.ext_getElem?
            intro j
            rw [List.getElem?_take, List.getElem?_drop]
            by_cases hj : j < R.sz
            · rw [if_pos hj, ← hc0 j hj]
              simp [World.cell?, hb]
            · rw [if_neg hj, List.getElem?_eq_none (by omega)]
          rw [e]
          exact hd
        | _ => simp [hb] at h0
    obtain ⟨f, hf⟩ : ∃ f : (i : Nat) → i < len → α, ∀ i hi, ∃ b o cells F fz, a = ⟨b, o, none⟩ ∧ w.heap[b]? = some (.cells cells F fz) ∧ R.rd w BE ((cells.toList.drop (o + i * R.sz)).take R.sz) (f i hi) :=
      ⟨fun i hi => Classical.choose (key i hi), fun i hi => Classical.choose_spec (key i hi)⟩
    refine ⟨List.ofFn (fun i : Fin len => f i.val i.isLt), _, rfl, some a, cap, by simp, by simpa using hl, hm, (fun h => by cases h), ?_⟩
    intro i hi
    have hi' : i < len := by simpa using hi
    obtain ⟨b, o, cells, F, fz, rfl, hb, hr⟩ := hf i hi'
    refine ⟨b, o, cells, F, fz, rfl, fun h => h, hb, ?_⟩
    simpa using hr
theorem xD {H : Type} {enc : TypeId × Value → H} {P : Program} {w : World} {spare : Nat → Bool} {held : Bool} {T : TypeId} {fs : Array Field} {fuel : Nat} {cs : List Value} {x : DataW H × List MemPlace} (ht : P.underlying T = some (.struct fs)) (h : DataW.trod enc P w 0 spare held fuel T cs = some x) :
    cs.length = P.cellsOf T ∧ ∃ n : Nat, ∀ (i : Nat) (f : Field), fs[i]? = some f → ∃ y : DataW H × List MemPlace, DataW.trod enc P w 0 spare held n f.type ((cs.drop f.offset).take (P.cellsOf f.type)) = some y := by
  obtain ⟨xs, n, _, _, hl, hxs, hf⟩ := DataW.trod_struct ht h
  refine ⟨hl, n, fun i f hi => ?_⟩
  have := hf i f hi
  have hlt : i < xs.length := by
    rw [hxs]
    rcases Nat.lt_or_ge i fs.size with h1 | h1
    · exact h1
    · rw [Array.getElem?_eq_none h1] at hi; cases hi
  rw [List.getElem?_eq_getElem hlt] at this
  exact ⟨_, this⟩
theorem fF {α : Type} {H : Type} {enc : TypeId × Value → H} {P : Program} {w : World} {spare : Nat → Bool} {held : Bool} {fs : Array Field} {n : Nat} {cs : List Value} {R : jE α} {i : Nat} {f : Field}
    (h : ∀ (i : Nat) (f : Field), fs[i]? = some f → ∃ y : DataW H × List MemPlace, DataW.trod enc P w 0 spare held n (Field.type f) ((cs.drop f.offset).take (P.cellsOf f.type)) = some y) (hi : fs[i]? = some f) (hc : P.cellsOf f.type = R.sz) (hR : wW P f.type R) :
    ∃ d, R.rd w BE ((cs.drop f.offset).take R.sz) d := by
  obtain ⟨y, hy⟩ := h i f hi
  rw [hc] at hy
  exact hR H enc w spare held n _ _ hy
theorem cells_one {l : List Value} {o : Nat} {v : Value} (h : (l.drop o).take 1 = [v]) : l[o]? = some v := by
  have := congrArg (fun l => l[0]?) h
  simpa [List.getElem?_take, List.getElem?_drop] using this
theorem uL {α : Type} {l : List α} {n : Nat} (h : l.length = n + 1) : ∃ a t, l = a :: t ∧ t.length = n := by
  cases l with
  | nil => simp at h
  | cons a t => exact ⟨a, t, rfl, by simpa using h⟩
theorem nobody {w : World} : ∀ b, BE b → b < w.heap.size := fun _ h => h.elim
end Go.LX
namespace Go.LX
open Go.RowKit Go.MapKept
def Pq (z : Value) (fK : List (Int × Value)) (k : Int) : Value := match fK with | [] => z | p :: r => if k = p.1 then p.2 else Pq z r k
def Ig (fK : List (Int × Value)) (k : Int) (v : Value) : List (Int × Value) := match fK with | [] => [(k, v)] | p :: r => if k = p.1 then (p.1, v) :: r else p :: Ig r k v
def Si (fK : List (Int × Value)) (k : Int) : Bool := match fK with | [] => false | p :: r => if k = p.1 then true else Si r k
def Dt (fK : List (Int × Value)) (k : Int) (i : Nat) : Option (Nat × Value) := match fK with | [] => none | p :: r => if k = p.1 then some (i, p.2) else Dt r k (i + 1)
theorem w9 {fK : List (Int × Value)} {k : Int} : ∀ {es : List MapEntry} {i : Nat}, es.map (fun e => (e.key, e.val)) = fK.map (fun p => (Value.int .i64 p.1, p.2)) →
    Instr.findNow (.int .i64) (.int .i64 k) es i = some (Dt fK k i) := by
  induction fK with
  | nil => intro es i h; cases es with | nil => rfl | cons e r => simp at h
  | cons p r ih =>
    intro es i h
    cases es with
    | nil => simp at h
    | cons e s =>
      simp only [List.map_cons, List.cons.injEq, Prod.mk.injEq] at h
      obtain ⟨⟨h1, h2⟩, h3⟩ := h
      unfold Instr.findNow Dt
      by_cases hk : k = p.1
      · simp [Instr.sameNow, h1, h2, hk]
      · have : (k == p.1) = false := by simpa using hk
        simp [Instr.sameNow, h1, this, hk, ih h3]
theorem Ih {z : Value} {k : Int} : ∀ {fK : List (Int × Value)} {i : Nat}, Pq z fK k = match Dt fK k i with | some (_, v) => v | none => z
  | [], i => rfl
  | p :: r, i => by
    unfold Pq Dt
    by_cases hk : k = p.1
    · simp [hk]
    · simp only [hk, if_false]; exact Ih
theorem Fq {k : Int} {v : Value} : ∀ {fK : List (Int × Value)} {i : Nat}, Dt fK k i = none → Ig fK k v = fK ++ [(k, v)]
  | [], i, _ => rfl
  | p :: r, i, h => by
    unfold Dt at h
    unfold Ig
    by_cases hk : k = p.1
    · simp [hk] at h
    · simp only [hk, if_false] at h ⊢
      rw [Fq h]; rfl
theorem Fs {k : Int} {v u : Value} : ∀ {fK : List (Int × Value)} {i j : Nat}, Dt fK k i = some (j, u) → i ≤ j ∧ ∃ p, fK[j - i]? = some p ∧ p.1 = k ∧ Ig fK k v = fK.set (j - i) (k, v)
  | [], i, j, h => by cases h
  | p :: r, i, j, h => by
    unfold Dt at h
    unfold Ig
    by_cases hk : k = p.1
    · simp only [hk, if_true, Option.some.injEq, Prod.mk.injEq] at h
      obtain ⟨rfl, _⟩ := h
      refine ⟨Nat.le_refl _, p, by simp, hk.symm, ?_⟩
      simp [hk]
    · simp only [hk, if_false] at h ⊢
      obtain ⟨h1, q, h2, h3, h4⟩ := Fs (v := v) h
      refine ⟨by omega, q, ?_, h3, ?_⟩
      · rw [show j - i = (j - (i + 1)) + 1 by omega]; simpa using h2
      · rw [show j - i = (j - (i + 1)) + 1 by omega, h4]; simp
section
variable {P : Program} {ops : Array Oper} {Q : Exit → Act → World → Prop} {n : Nat} {env : Nat → Value} {w w' w0 : World} {M K : BS} {hp : Nat → Chunk} {rest : List Oper}
  {d : Option Nat} {op : Op} {ty : TypeId} {pos : String} {af : Array Edge} {v : Value} {g : Option (Nat × Bool)} {T : TypeId} {ρ : Operand → Value}
structure MapOf (P : Program) (T : TypeId) (z : Value) : Prop where
  desc : ∃ K E, P.underlying T = some (.map K E) ∧ P.underlying K = some (.int .i64) ∧ (P.info? E).map (·.zero) = some (some z)
theorem Sj : (execOp ρ ⟨d, .makeMap T none, ty, pos, af, g⟩).run P w = .ok (.value (.map (some w.heap.size))) (w.alloc (.map #[] 0)) := by
  simp [execOp, Instr.makeMap, World.alloc, -World.alloc_eq]
theorem Rm {e : Bool} {K : TypeId} {k : Int} (hK : P.underlying K = some (.int .i64)) : (Instr.checkKey e 10000 K (.int .i64 k)).run P w = .ok () w :=
  run_checkKey hK (by trivial) e 9999
theorem Ak.push {es : Array MapEntry} {c : Nat} (h : Ak es c) (k v : Value) : Ak (es.push { key := k, val := v, born := c }) (c + 1) := by
  refine ⟨fun e he => ?_, ?_⟩
  · simp only [Array.toList_push, List.mem_append, List.mem_singleton] at he
    rcases he with he | rfl
    · exact Nat.lt_succ_of_lt (h.1 e he)
    · exact Nat.lt_succ_self c
  · rw [Array.toList_push, List.map_append, List.nodup_append]
    refine ⟨h.2, by simp, fun x hx y hy => ?_⟩
    simp only [List.map_cons, List.map_nil, List.mem_singleton] at hy
    obtain ⟨e, he, rfl⟩ := List.mem_map.1 hx
    have := h.1 e he
    omega
theorem Ak.modify {es : Array MapEntry} {c : Nat} (h : Ak es c) (j : Nat) (k v : Value) : Ak (es.modify j fun e => { e with key := k, val := v }) c := by
  have e : (es.modify j fun e => { e with key := k, val := v }).toList.map (·.born) = es.toList.map (·.born) := by
    apply List.ext_getElem?
    intro i
    simp only [List.getElem?_map, Array.getElem?_toList, Array.getElem?_modify]
    by_cases hi : j = i
    · subst hi; cases es[j]? <;> simp
    · simp [hi]
  refine ⟨fun x hx => ?_, by rw [e]; exact h.2⟩
  have : x.born ∈ (es.modify j fun e => { e with key := k, val := v }).toList.map (·.born) := List.mem_map.2 ⟨x, hx, rfl⟩
  rw [e] at this
  obtain ⟨y, hy, hyx⟩ := List.mem_map.1 this
  rw [← hyx]
  exact h.1 y hy
theorem Nr {z : Value} {x y : Operand} {b : Nat} {k : Int} {fK : List (Int × Value)} (hT : MapOf P T z) (hx : ρ x = .map (some b)) (hy : ρ y = .int .i64 k) (hb : wV w b fK) :
    (execOp ρ ⟨d, .lookup T x y false, ty, pos, af, g⟩).run P w = .ok (.value (Pq z fK k)) w := by
  obtain ⟨K, E, h1, h2, h3⟩ := hT.desc
  obtain ⟨es, clock, hb, he, Uz⟩ := hb
  obtain ⟨i, hi, hz⟩ : ∃ i, P.info? E = some i ∧ i.zero = some z := by
    cases hi : P.info? E with
    | none => simp [hi] at h3
    | some i => simp [hi] at h3; exact ⟨i, rfl, h3⟩
  have hf := w9 (k := k) (i := 0) he
  have hg : (getObj b).run P w = .ok (.map es clock) w := by simp [getObj, Sem.run, hb]
  rw [Ih (z := z) (k := k) (fK := fK) (i := 0)]
  simp only [execOp, Instr.lookup, underlying, hx, hy]
  have hc := fun e => Rm (P := P) (w := w) (e := e) (K := K) (k := k) h2
  simp only [Sem.run_bind, run_program, Result.andThen_ok, h1, Sem.run_pure, hg, hc, Instr.findKey, underlying, h2, hf]
  cases ha : Dt fK k 0 with
  | none => simp [zeroValue, typeInfo, hi, hz]
  | some p => simp
theorem LV {z : Value} {x y u : Operand} {b : Nat} {k : Int} {fK : List (Int × Value)} (hT : MapOf P T z) (hx : ev n env x = .map (some b)) (hy : ev n env y = .int .i64 k) (hu : ev n env u = v) (hb : wV w b fK)
    (h : ∀ w', aI (fun x => x = b) w w' → wV w' b (Ig fK k v) → WL P ops Q rest n (jJ env d undef) w') :
    WL P ops Q (⟨d, .mapUpdate T x y u, ty, pos, af, none⟩ :: rest) n env w := by
  obtain ⟨K, E, h1, h2, h3⟩ := hT.desc
  obtain ⟨es, clock, hb, he, Uz⟩ := hb
  have hf := w9 (k := k) (i := 0) he
  have hg : (getObj b).run P w = .ok (.map es clock) w := by simp [getObj, Sem.run, hb]
  have hlt := gK hb
  have hc := fun e => Rm (P := P) (w := w) (e := e) (K := K) (k := k) h2
  have hlen : es.toList.length = fK.length := by have := congrArg List.length he; simpa using this
  cases ha : Dt fK k 0 with
  | none =>
    refine tJ (w' := qW w b (.map (es.push { key := .int .i64 k, val := v, born := clock }) (clock + 1))) ?_ (h _ (aI.qW _ _ _) ⟨_, _, tL hlt, ?_, Uz.push _ _⟩)
    · rw [ha] at hf
      simp only [execOp, Instr.mapUpdate, underlying, hx, hy, hu]
      simp only [Sem.run_bind, run_program, Result.andThen_ok, h1, Sem.run_pure, hg, hc, Instr.findKey, underlying, h2, hf, run_setObj_map _ hb]
      rfl
    · rw [Fq ha]
      simp [he]
  | some p =>
    obtain ⟨j, u0⟩ := p
    obtain ⟨_, q, hq, hqk, hset⟩ := Fs (v := v) ha
    simp only [Nat.sub_zero] at hq hset
    have hj : j < es.size := by
      have h5 : j < fK.length := by
        rcases Nat.lt_or_ge j fK.length with h5 | h5
        · exact h5
        · rw [List.getElem?_eq_none h5] at hq; cases hq
      simpa [← hlen] using h5
    have hkey : es[j].key = .int .i64 k := by
      have h6 := congrArg (fun l => l[j]?) he
      simp [hq, hj] at h6
      rw [h6.1, hqk]
    refine tJ (w' := qW w b (.map (es.modify j fun e => { e with key := .int .i64 k, val := v }) clock)) ?_ (h _ (aI.qW _ _ _) ⟨_, _, tL hlt, ?_, Uz.modify _ _ _⟩)
    · rw [ha] at hf
      have hks : (Instr.keyThatStays (.int .i64 k) (.int .i64 k)).run P w = .ok (.int .i64 k) w := by simp [Instr.keyThatStays, Instr.sameBits]
      simp only [execOp, Instr.mapUpdate, underlying, hx, hy, hu]
      simp only [Sem.run_bind, run_program, Result.andThen_ok, h1, Sem.run_pure, hg, hc, Instr.findKey, underlying, h2, hf, Array.getElem?_eq_getElem hj, Option.map_some, Option.getD_some, hkey, hks, run_setObj_map _ hb]
      rfl
    · rw [hset, List.map_set, ← he]
      apply List.ext_getElem?
      intro i
      simp only [List.getElem?_map, Array.getElem?_toList, Array.getElem?_modify, List.getElem?_set, List.length_map, Array.length_toList]
      by_cases hi : j = i
      · subst hi; simp [hj]
      · simp [hi]
theorem Sk {z : Value} {x y u : Operand} {b : Nat} {k : Int} {fK : List (Int × Value)} (hT : MapOf P T z) (hx : ev n env x = .map (some b)) (hy : ev n env y = .int .i64 k) (hu : ev n env u = v) (hb : wV w b fK)
    (h : ∀ w', aI (fun x => x = b) w w' → wV w' b (Ig fK k v) → WL P ops Q rest n (jJ env d undef) w') :
    WL P ops Q (⟨d, .insert T x y u, ty, pos, af, none⟩ :: rest) n env w := by
  obtain ⟨K, E, h1, h2, h3⟩ := hT.desc
  obtain ⟨es, clock, hb, he, Uz⟩ := hb
  have hf := w9 (k := k) (i := 0) he
  have hg : (getObj b).run P w = .ok (.map es clock) w := by simp [getObj, Sem.run, hb]
  have hlt := gK hb
  have hc := fun e => Rm (P := P) (w := w) (e := e) (K := K) (k := k) h2
  have hlen : es.toList.length = fK.length := by have := congrArg List.length he; simpa using this
  cases ha : Dt fK k 0 with
  | none =>
    refine tJ (w' := qW w b (.map (es.push { key := .int .i64 k, val := v, born := clock }) (clock + 1))) ?_ (h _ (aI.qW _ _ _) ⟨_, _, tL hlt, ?_, Uz.push _ _⟩)
    · rw [ha] at hf
      simp only [execOp, Instr.mapUpdate, underlying, hx, hy, hu]
      simp only [Sem.run_bind, run_program, Result.andThen_ok, h1, Sem.run_pure, hg, hc, Instr.findKey, underlying, h2, hf, run_setObj_map _ hb]
      rfl
    · rw [Fq ha]
      simp [he]
  | some p =>
    obtain ⟨j, u0⟩ := p
    obtain ⟨_, q, hq, hqk, hset⟩ := Fs (v := v) ha
    simp only [Nat.sub_zero] at hq hset
    have hj : j < es.size := by
      have h5 : j < fK.length := by
        rcases Nat.lt_or_ge j fK.length with h5 | h5
        · exact h5
        · rw [List.getElem?_eq_none h5] at hq; cases hq
      simpa [← hlen] using h5
    have hkey : es[j].key = .int .i64 k := by
      have h6 := congrArg (fun l => l[j]?) he
      simp [hq, hj] at h6
      rw [h6.1, hqk]
    refine tJ (w' := qW w b (.map (es.modify j fun e => { e with key := .int .i64 k, val := v }) clock)) ?_ (h _ (aI.qW _ _ _) ⟨_, _, tL hlt, ?_, Uz.modify _ _ _⟩)
    · rw [ha] at hf
      have hks : (Instr.keyThatStays (.int .i64 k) (.int .i64 k)).run P w = .ok (.int .i64 k) w := by simp [Instr.keyThatStays, Instr.sameBits]
      simp only [execOp, Instr.mapUpdate, underlying, hx, hy, hu]
      simp only [Sem.run_bind, run_program, Result.andThen_ok, h1, Sem.run_pure, hg, hc, Instr.findKey, underlying, h2, hf, Array.getElem?_eq_getElem hj, Option.map_some, Option.getD_some, hkey, hks, run_setObj_map _ hb]
      rfl
    · rw [hset, List.map_set, ← he]
      apply List.ext_getElem?
      intro i
      simp only [List.getElem?_map, Array.getElem?_toList, Array.getElem?_modify, List.getElem?_set, List.length_map, Array.length_toList]
      by_cases hi : j = i
      · subst hi; simp [hj]
      · simp [hi]
theorem wV.lt {b : Nat} {fK : List (Int × Value)} (h : wV w b fK) : b < w.heap.size := let ⟨_, _, h, _⟩ := h; gK h
theorem Ns {k : Int} : ∀ {fK : List (Int × Value)} {i : Nat}, Si fK k = (Dt fK k i).isSome
  | [], i => rfl
  | p :: r, i => by
    unfold Si Dt
    by_cases hk : k = p.1
    · simp [hk]
    · simp only [hk, if_false]; exact Ns
theorem Sl {z : Value} {x y : Operand} {b : Nat} {k : Int} {fK : List (Int × Value)} (hT : MapOf P T z) (hx : ρ x = .map (some b)) (hy : ρ y = .int .i64 k) (hb : wV w b fK) :
    (execOp ρ ⟨d, .lookup T x y true, ty, pos, af, g⟩).run P w = .ok (.value (.tuple #[Pq z fK k, .bool (Si fK k)])) w := by
  obtain ⟨K, E, h1, h2, h3⟩ := hT.desc
  obtain ⟨es, clock, hb, he, Uz⟩ := hb
  obtain ⟨i, hi, hz⟩ : ∃ i, P.info? E = some i ∧ i.zero = some z := by
    cases hi : P.info? E with
    | none => simp [hi] at h3
    | some i => simp [hi] at h3; exact ⟨i, rfl, h3⟩
  have hf := w9 (k := k) (i := 0) he
  have hg : (getObj b).run P w = .ok (.map es clock) w := by simp [getObj, Sem.run, hb]
  rw [Ih (z := z) (k := k) (fK := fK) (i := 0), Ns (i := 0)]
  simp only [execOp, Instr.lookup, underlying, hx, hy]
  have hc := fun e => Rm (P := P) (w := w) (e := e) (K := K) (k := k) h2
  simp only [Sem.run_bind, run_program, Result.andThen_ok, h1, Sem.run_pure, hg, hc, Instr.findKey, underlying, h2, hf]
  cases ha : Dt fK k 0 with
  | none => simp [zeroValue, typeInfo, hi, hz]
  | some p => simp
def lk {α : Type} (k : Int) : List (Int × α) → Option α
  | [] => none
  | p :: r => if k = p.1 then some p.2 else lk k r
theorem HV {α : Type} {f : α → Value} {z : α} {k : Int} : ∀ (l : List (Int × α)), Pq (f z) (l.map fun p => (p.1, f p.2)) k = f ((lk k l).getD z)
  | [] => rfl
  | p :: r => by
    show (if k = p.1 then f p.2 else Pq _ _ k) = f ((if k = p.1 then some p.2 else lk k r).getD z)
    by_cases h : k = p.1
    · simp [h]
    · simp only [h, if_false]; exact HV r
theorem Rn {α : Type} {f : α → Value} {k : Int} : ∀ (l : List (Int × α)), Si (l.map fun p => (p.1, f p.2)) k = (lk k l).isSome
  | [] => rfl
  | p :: r => by
    show (if k = p.1 then true else Si _ k) = (if k = p.1 then some p.2 else lk k r).isSome
    by_cases h : k = p.1
    · simp [h]
    · simp only [h, if_false]; exact Rn r
theorem r_lk2 {α : Type} {f : α → Value} {zz : α} {z : Value} {x y : Operand} {b : Nat} {k : Int} {fK : List (Int × Value)} (l : List (Int × α)) (h : SH w0 M K w hp) (i : Nat) (hi : hp i = .mp b fK) (hT : MapOf P T z) (hx : ρ x = .map (some b)) (hy : ρ y = .int .i64 k) (hz : z = f zz) (he : fK = l.map fun p => (p.1, f p.2)) :
    (execOp ρ ⟨d, .lookup T x y true, ty, pos, af, g⟩).run P w = .ok (.value (.tuple #[f ((lk k l).getD zz), .bool (lk k l).isSome])) w := by
  have := Sl (d := d) (ty := ty) (pos := pos) (af := af) (g := g) hT hx hy (h.Po i hi)
  rw [hz, he, HV, Rn] at this
  exact this
theorem Zb {α : Type} {f : α → Value} {zz : α} {z : Value} {x y : Operand} {b : Nat} {k : Int} {fK : List (Int × Value)} (l : List (Int × α)) (h : SH w0 M K w hp) (i : Nat) (hi : hp i = .mp b fK) (hT : MapOf P T z) (hx : ρ x = .map (some b)) (hy : ρ y = .int .i64 k) (hz : z = f zz) (he : fK = l.map fun p => (p.1, f p.2)) :
    (execOp ρ ⟨d, .lookup T x y false, ty, pos, af, g⟩).run P w = .ok (.value (f ((lk k l).getD zz))) w := by
  have := Nr (d := d) (ty := ty) (pos := pos) (af := af) (g := g) hT hx hy (h.Po i hi)
  rw [hz, he, HV] at this
  exact this
theorem Cx (h : SH w0 M K w hp) (i : Nat) (k : ∀ w' b, SH w0 M K w' (bH hp i (.mp b [])) → WL P ops Q rest n (jJ env d (.map (some b))) w') : WL P ops Q (⟨d, .makeMap T none, ty, pos, af, none⟩ :: rest) n env w :=
  aa Sj (k _ _ (h.learn i (Grow.alloc _ _) (fun b hb => Nat.le_of_eq hb.symm) ⟨#[], 0, Cw _ _, rfl, by simp [Ak]⟩))
theorem SH.Zc {b : Nat} {fK p8 : List (Int × Value)} (h : SH w0 M K w hp) (i : Nat) (hi : hp i = .mp b fK) (hk : aI (fun x => x = b) w w') (hm : wV w' b p8) : SH w0 M K w' (bH hp i (.mp b p8)) :=
  h.step i hk (fun x hx _ => by rw [hi]; exact hx) (fun x hx _ => by rw [hi]; exact hx) hm
theorem nk {z : Value} {x y u : Operand} {b : Nat} {k : Int} {fK p8 : List (Int × Value)} (h : SH w0 M K w hp) (i : Nat) (hi : hp i = .mp b fK) (hT : MapOf P T z) (hx : ev n env x = .map (some b)) (hy : ev n env y = .int .i64 k) (hu : ev n env u = v) (he : Ig fK k v = p8)
    (kk : ∀ w', SH w0 M K w' (bH hp i (.mp b p8)) → WL P ops Q rest n (jJ env d undef) w') : WL P ops Q (⟨d, .insert T x y u, ty, pos, af, none⟩ :: rest) n env w :=
  Sk hT hx hy hu (h.Po i hi) fun w' hk hm => kk w' (h.Zc i hi hk (he ▸ hm))
theorem BD {z : Value} {x y u : Operand} {b : Nat} {k : Int} {fK p8 : List (Int × Value)} (h : SH w0 M K w hp) (i : Nat) (hi : hp i = .mp b fK) (hT : MapOf P T z) (hx : ev n env x = .map (some b)) (hy : ev n env y = .int .i64 k) (hu : ev n env u = v) (he : Ig fK k v = p8)
    (kk : ∀ w', SH w0 M K w' (bH hp i (.mp b p8)) → WL P ops Q rest n (jJ env d undef) w') : WL P ops Q (⟨d, .mapUpdate T x y u, ty, pos, af, none⟩ :: rest) n env w :=
  LV hT hx hy hu (h.Po i hi) fun w' hk hm => kk w' (h.Zc i hi hk (he ▸ hm))
end
theorem SH.KF {w : World} {M K : BS} {hp : Nat → Chunk} {w0 : World} {b : Nat} {cs : List Value} (h : SH w0 M K w hp) (i : Nat) (ho : ∃ E, w.heap[b]? = some (.cells cs.toArray E (0, 0))) (hn : ∀ b, ¬ eQ hp b) : SH w0 M K w (bH hp i (.pt b 0 cs)) := by
  obtain ⟨E, ho⟩ := ho
  exact h.know i (fun _ h => h) ⟨hn b, _, _, _, ho, by simp⟩
end Go.LX
namespace Go.LX
open Go.RowKit
def hasB (s : Str) (c : UInt8) : Bool := decide (0 ≤ Go.Lib.indexByte s c)
section
variable {P : Program} {ops : Array Oper} {Q : Exit → Act → World → Prop} {n : Nat} {env : Nat → Value} {w : World} {rest : List Oper}
  {d : Option Nat} {ty : TypeId} {pos : String} {af : Array Edge} {v : Value} {x : Operand}
theorem Cy {f : FuncId} (captured : List Value) {xs : Array Operand} {ts : Array TypeId} {args : List Value} {j dj : Nat} {b want : Bool} (c0 : Bool) (hd : (ops[j]?).bind (·.dst) = some dj) (hv : ev n env (.tmp dj) = gv c0 (.bool b)) (hf : gP P f) (hx : (c0 && (b == want)) = true → ev n env x = .func (.func f) #[] captured.toArray)
    (ha : (c0 && (b == want)) = true → xs.toList.map (ev n env) ++ captured = args) (hc : Calls P f args.toArray w (fun e w' => Grow w w' ∧ e = .returned v))
    (k : ∀ w', Grow w w' → WL P ops Q rest n (jJ env d (gv (c0 && (b == want)) v)) w') :
    WL P ops Q (⟨d, .call { callee := .value x, args := xs, argTypes := ts }, ty, pos, af, some (j, want)⟩ :: rest) n env w := by
  by_cases hcc : (c0 && (b == want)) = true
  · have h0 := gl hcc
    have h1 := gr hcc
    rw [dz h0] at hv
    have hb : b = want := by simpa using h1
    subst hb
    refine dH hd hv (aS hf (hx hcc) (by simpa using ha hcc) hc ?_)
    rintro e w' ⟨hk, rfl⟩
    refine ⟨_, rfl, ?_⟩
    have := k w' hk
    rw [dz hcc] at this
    exact this
  · have hc' : (c0 && (b == want)) = false := by simpa using hcc
    have h := k w (aI.refl _ _)
    rw [hc'] at h
    cases c0 with
    | true => exact gy hd hv (by simpa using hc') h
    | false => exact Re hd hv h
theorem Ii {f : FuncId} (captured : List Value) {xs : Array Operand} {ts : Array TypeId} {args : List Value} {j dj : Nat} {b want : Bool} (hd : (ops[j]?).bind (·.dst) = some dj) (hv : ev n env (.tmp dj) = .bool b) (hf : gP P f) (hx : (b == want) = true → ev n env x = .func (.func f) #[] captured.toArray)
    (ha : (b == want) = true → xs.toList.map (ev n env) ++ captured = args) (hc : Calls P f args.toArray w (fun e w' => Grow w w' ∧ e = .returned v))
    (k : ∀ w', Grow w w' → WL P ops Q rest n (jJ env d (gv (b == want) v)) w') :
    WL P ops Q (⟨d, .call { callee := .value x, args := xs, argTypes := ts }, ty, pos, af, some (j, want)⟩ :: rest) n env w :=
  Cy captured true hd hv hf (fun h => hx (by simpa using h)) (fun h => ha (by simpa using h)) hc (by simpa using k)
end
end Go.LX
namespace Go.LX
open Go.RowKit Go.Deep
def LW {α : Type} (P : Program) (T : TypeId) (R : jE α) (m : Nat) : Prop :=
  ∀ (H : Type) (enc : TypeId × Value → H) (w : World) (spare : Nat → Bool) (held : Bool) (fuel : Nat) (cs : List Value) (x : DataW H × List MemPlace), fuel ≤ m → DataW.trod enc P w 0 spare held fuel T cs = some x → ∃ d, R.rd w BE cs d
theorem LW.le {α : Type} {P : Program} {T : TypeId} {R : jE α} {m n : Nat} (h : LW P T R m) (hn : n ≤ m) : LW P T R n := fun H enc w spare held fuel cs x hf hx => h H enc w spare held fuel cs x (Nat.le_trans hf hn) hx
end Go.LX
namespace Go.LX
open Go.RowKit
section
variable {P : Program} {ops : Array Oper}
variable {Q : Exit → Act → World → Prop} {n : Nat} {env : Nat → Value} {w w0 : World} {M K : BS} {hp : Nat → Chunk}
structure Sm (P : Program) (ops : Array Oper) (L : BS) (ws : World) (Q : Exit → Act → World → Prop) (fuel : Nat) (listed : Array Bool) (n : Nat) (env : Nat → Value) (w : World) : Prop where
  out : wpAnyH P .any ops (NoPanic Q) (aI L ws) fuel listed (act n env) w
theorem ky {L : BS} {id : Nat} {l : List Oper} (hm : P.follows .mixedOrders = true) (h0 : SH w0 M K w hp)
    (h : ∀ w, SH w0 M K w hp → Sm P l.toArray L w Q l.length (Array.replicate l.length false) n env w) : WC P (Code.region id l.toArray true) Q n env w :=
  ⟨wp_region_noPanic (wp_region_held (S := aI L w.drew) hm (h _ (h0.grow (Grow.drew w))).out)⟩
variable {d : Option Nat} {op : Op} {ty : TypeId} {pos : String} {af : Array Edge} {v : Value} {g : Option (Nat × Bool)} {i fuel : Nat} {listed : Array Bool}
theorem Sn {L : BS} {ws : World} {o : Oper} (hS : aI L ws w) (hi : ops[i]? = some o) (hs : Region.noSelect ops = true) (hf : Region.free .any ops listed i = true) (hr : (Region.ready .any ops listed).contains i = true)
    (hy : YieldsIf P ops (aI L ws) o v (act n env)) (h : Sm P ops L ws Q fuel (listed.setIfInBounds i true) n (jJ env o.dst v) w) : Sm P ops L ws Q (fuel + 1) listed n env w := by
  refine ⟨wpAnyH_take hi hs hf hr (fun _ _ _ h => h) hy hS ?_⟩
  rw [vv]
  exact h.out
theorem bB {L : BS} {ws : World} (i : Nat) (hS : aI L ws w) (hi : ops[i]? = some ⟨d, op, ty, pos, af, g⟩) (hw : Region.wanted ⟨d, op, ty, pos, af, g⟩ (yielded ops (act n env).tmps) = true) (hs : Region.noSelect ops = true) (hf : Region.free .any ops listed i = true) (hr : (Region.ready .any ops listed).contains i = true)
    (he : ∀ wq, aI L ws wq → (execOp (ev n env) ⟨d, op, ty, pos, af, g⟩).run P wq = .ok (.value v) wq) (h : Sm P ops L ws Q fuel (listed.setIfInBounds i true) n (jJ env d v) w) : Sm P ops L ws Q (fuel + 1) listed n env w :=
  Sn (o := ⟨d, op, ty, pos, af, g⟩) hS hi hs hf hr (.inl ⟨hw, fun wq hq => by rw [gD]; exact he wq hq⟩) h
theorem fB {L : BS} {ws : World} (hr : Region.ready .any ops listed = []) (h : Q .normal (act n env) w) : Sm P ops L ws Q fuel listed n env w := ⟨wpAnyH_done hr (NoPanic.normal h) fuel⟩
def LY (P : Program) (ops : Array Oper) (L : BS) (ws : World) (Q : Exit → Act → World → Prop) (fuel : Nat) (listed : Array Bool) : Exit → Act → World → Prop :=
  ZV (fun a' w' => aI L ws w' ∧ wpAnyH P .any ops (NoPanic Q) (aI L ws) fuel listed a' w') (NoPanic Q)
theorem aQ {L : BS} {ws : World} (hg : aI L ws w) (h : Sm P ops L ws Q fuel listed n env w) : LY P ops L ws Q fuel listed .normal (act n env) w := ⟨hg, h.out⟩
theorem bF {L : BS} {ws : World} (i : Nat) (hr : Region.ready .any ops listed = [i]) (hi : ops[i]? = some ⟨d, op, ty, pos, af, g⟩) (hw : Region.wanted ⟨d, op, ty, pos, af, g⟩ (yielded ops (act n env).tmps) = true)
    (h : WL P ops (LY P ops L ws Q fuel (listed.setIfInBounds i true)) [⟨d, op, ty, pos, af, none⟩] n env w) : Sm P ops L ws Q (fuel + 1) listed n env w := by
  refine ⟨wpAnyH_all hr (by simp) (fun k hk => ?_)⟩
  obtain rfl : k = i := by simpa using hk
  exact zk hi hw h
theorem oZ {L : BS} {ws : World} {d' : Option Nat} {op' : Op} {ty' : TypeId} {pos' : String} {ZW : Array Edge} {g' : Option (Nat × Bool)} (i j : Nat) (hr : Region.ready .any ops listed = [i, j]) (hi : ops[i]? = some ⟨d, op, ty, pos, af, g⟩) (hw : Region.wanted ⟨d, op, ty, pos, af, g⟩ (yielded ops (act n env).tmps) = true)
    (hj : ops[j]? = some ⟨d', op', ty', pos', ZW, g'⟩) (hw' : Region.wanted ⟨d', op', ty', pos', ZW, g'⟩ (yielded ops (act n env).tmps) = true)
    (h : WL P ops (LY P ops L ws Q fuel (listed.setIfInBounds i true)) [⟨d, op, ty, pos, af, none⟩] n env w) (h' : WL P ops (LY P ops L ws Q fuel (listed.setIfInBounds j true)) [⟨d', op', ty', pos', ZW, none⟩] n env w) : Sm P ops L ws Q (fuel + 1) listed n env w := by
  refine ⟨wpAnyH_all hr (by simp) (fun k hk => ?_)⟩
  rcases List.mem_cons.1 hk with rfl | hk
  · exact zk hi hw h
  · obtain rfl : k = j := by simpa using hk
    exact zk hj hw' h'
theorem qX {L : BS} {ws a : World} (e : a = ws) (h : Sm P ops L ws Q fuel listed n env w) : Sm P ops L a Q fuel listed n env w := e ▸ h
end
theorem aI.UR {a b c : World} {L N : BS} (h : aI L a b) (k : aI N b c) (hN : ∀ x, N x → a.heap.size ≤ x) : aI L a c := h.step k (fun x hx hl => by have := hN x hx; omega)
theorem aI.same {a b c : World} {L : BS} (h : aI L a b) (k : aI L b c) : aI L a c := h.step k (fun _ hx _ => hx)
section
variable {P : Program} {ops : Array Oper} {Q : Exit → Act → World → Prop} {n : Nat} {env : Nat → Value} {w w' w0 : World} {M K : BS} {hp : Nat → Chunk} {rest : List Oper}
  {d : Option Nat} {op : Op} {ty : TypeId} {pos : String} {af : Array Edge} {v : Value} {g : Option (Nat × Bool)} {T : TypeId} {ρ : Operand → Value} {x y : Operand}
theorem UT {α : Type} {R : jE α} {E : TypeId} {sz : Nat} {l : List α} {k : Int} {a a' : α} {b off : Nat} {z u : Value} (h : SH w0 M K w hp) (i : Nat) (hi : hp i = .own R E u l) (hb : ob u b) (hs : R.sz = sz) (hk : l[k.toNat]? = some a) (hT : One P T z) (hx : ev n env x = .pointer (some ⟨b, k.toNat * sz + off, none⟩))
    (hy : ev n env y = v) (h1 : v.oneCell' = true) (hoff : Nat.blt off sz = true) (hset : ∀ cs, R.rd w (SH.A M hp) cs a → R.rd w (SH.A M hp) (cs.set off v) a')
    (kk : ∀ w', SH w0 M K w' (bH hp i (.own R E u (l.set k.toNat a'))) → aI (ob u) w w' → WL P ops Q rest n (jJ env d undef) w') :
    WL P ops Q (⟨d, .store T x y, ty, pos, af, none⟩ :: rest) n env w := by
  subst hs
  rw [Nat.blt_eq] at hoff
  have hkl : k.toNat < l.length := by
    rcases Nat.lt_or_ge k.toNat l.length with h | h
    · exact h
    · rw [List.getElem?_eq_none h] at hk; cases hk
  have hla : l[k.toNat] = a := by rw [List.getElem?_eq_getElem hkl] at hk; exact Option.some.inj hk
  generalize k.toNat = k at *
  have hown : ∀ b, ob u b → SH.A M hp b := fun b hb => .inr ⟨i, by rw [hi]; exact hb⟩
  obtain ⟨xs, q1, q3⟩ := h.dD i hi
  rcases q1.2 with ⟨rfl, hn⟩ | ⟨g', cap, cur, rfl, e1, e2, e3, e4, e5, e6⟩
  · omega
  have hgb : b = g' := hb
  subst hgb
  have hle : (k + 1) * R.sz ≤ l.length * R.sz := Nat.mul_le_mul_right _ hkl
  have hcl : l.length * R.sz ≤ cap * R.sz := Nat.mul_le_mul_right _ e3
  rw [Nat.add_mul] at hle
  have hoc : k * R.sz + off < cur.size := by omega
  have hk2 := aI.qW w b (.cells (cur.setIfInBounds (k * R.sz + off) v) E (0, 0))
  refine tJ (El hT hx e2 hoc hy h1) (kk _ (h.step i hk2 (fun x hx _ => by rw [hi]; exact hx) (fun x hx _ => by rw [hi]; exact hx) ⟨xs.set (k * R.sz + off) v, ⟨?_, .inr ⟨b, cap, cur.setIfInBounds (k * R.sz + off) v, ?_, e1, ?_, ?_, e4, ?_, ?_⟩⟩, ?_⟩) (hk2.weaken (fun x hx _ => hx)))
  · rw [List.length_set, List.length_set]; exact q1.1
  · rw [List.length_set]
  · rw [tL (gK e2)]
  · rw [List.length_set]; exact e3
  · simpa using e5
  · rw [List.length_set, Array.toList_setIfInBounds, List.take_set, e6]
  · intro i' hi'
    have hi2 : i' < l.length := by rwa [List.length_set] at hi'
    have hgo := fun cs a (h : R.rd w (SH.A M hp) cs a) => R.go (A' := fun x => (M x ∨ (SH.av hp i (.own R E (.slice (some ⟨b, 0, none⟩) l.length cap) (l.set k a'))) x) ∨ ob (.slice (some ⟨b, 0, none⟩) l.length cap) x) h hk2 (fun x hx _ => hown x hx) (fun x hx _ => by
      rcases hx with (hx | hx | hx) | hx
      · exact .inl hx
      · exact .inr (iW hx)
      · exact hown x hx
      · exact hown x hx)
    have hq := fun j (hj : j < l.length) => R.go (A' := SH.A M hp) (q3 j hj) (aI.refl BE w) (fun _ h => h.elim) (fun x hx _ => .inl hx)
    by_cases hik : i' = k
    · subst hik
      rw [List.getElem_set_self, Dk rfl]
      exact hgo _ _ (hset _ (hla ▸ hq i' hkl))
    · rw [List.getElem_set_ne (Ne.symm hik), BB]
      · exact hgo _ _ (hq i' hi2)
      · rcases Nat.lt_or_ge k i' with h5 | h5
        · left
          have : (k + 1) * R.sz ≤ i' * R.sz := Nat.mul_le_mul_right _ h5
          rw [Nat.add_mul] at this
          omega
        · right
          have : (i' + 1) * R.sz ≤ k * R.sz := Nat.mul_le_mul_right _ (by omega)
          rw [Nat.add_mul] at this
          omega
end
end Go.LX
namespace Go.LX
open Go.RowKit Go.Sort
theorem Grow.grow (w : World) (os : Array Obj) : Grow w (Sort.grow w os) :=
  ⟨rfl, rfl, rfl, by simp [Sort.grow], fun k _ hk => by simp [Sort.grow, Array.getElem?_append_left hk]⟩
structure One1 where
  v : Value
  one : v.oneCell' = true
instance : Inhabited One1 := ⟨⟨.bool false, rfl⟩⟩
end Go.LX
namespace Go.LX
open Go.RowKit
section
variable {w0 w : World} {M K : BS} {hp : Nat → Chunk} {α : Type} {R : jE α}
theorem SH.fC (h : SH w0 M K w hp) (i : Nat) : SH w0 M K w (bH hp i .no) := h.step i (aI.refl BE w) (fun _ h => h.elim) (fun _ h => h.elim) trivial
variable {P : Program} {T T2 ty : TypeId} {ρ : Operand → Value} {d : Option Nat} {pos : String} {af : Array Edge} {g : Option (Nat × Bool)} {x y : Operand} {v : Value} {A : BS} {o : Option α}
end
end Go.LX
namespace Go.LX
open Go.RowKit
def Chunk.Ij : Chunk → Prop
  | .sr .. => False
  | .pt .. => False
  | .two a b => a.Ij ∧ b.Ij
  | _ => True
theorem Chunk.re {c : Chunk} {w : World} {M O M' O' : BS} (hf : c.Ij) (h : c.holds w M O) (hu : ∀ b, M' b ∨ O' b → b < w.heap.size → M b ∨ O b) : c.holds w M' O' := by
  induction c with
  | no => trivial
  | rd R v l => exact gB.sub h hu hu
  | sr R v l => exact hf.elim
  | pt b o cs => exact hf.elim
  | blk b cs => exact h
  | own R E v l => exact dW.go h (aI.refl BE w) (fun _ h => h.elim) (fun _ h => h.elim) (fun b hb hl => .inl (hu b hb hl))
  | rp R v x => exact R.go h (aI.refl BE w) (fun _ h => h.elim) hu
  | two a b iha ihb => exact ⟨iha hf.1 h.1, ihb hf.2 h.2.1, h.2.2⟩
  | gZ S => exact S.go h (aI.refl BE w) (fun _ h => h.elim) (fun _ h => h.elim) (fun b hb hl => .inl (hu b hb hl))
  | mp b fK => exact h
section
variable {w0 w w' : World} {M K : BS} {hp : Nat → Chunk}
theorem SH.pair (h : SH w0 M K w hp) (i j : Nat) (hij : i ≠ j) : SH w0 M K w (bH (bH hp j .no) i (.two (hp i) (hp j))) := by
  have key : ∀ x b, (bH (bH hp j .no) i (.two (hp i) (hp j)) x).own' b → (x = i ∧ ((hp i).own' b ∨ (hp j).own' b)) ∨ (x ≠ i ∧ x ≠ j ∧ (hp x).own' b) := by
    intro x b hb
    by_cases e : x = i
    · subst e; rw [bI] at hb; exact .inl ⟨rfl, hb⟩
    · rw [di e] at hb
      by_cases e2 : x = j
      · subst e2; rw [bI] at hb; exact hb.elim
      · rw [di e2] at hb; exact .inr ⟨e, e2, hb⟩
  have hall : ∀ b, eQ (bH (bH hp j .no) i (.two (hp i) (hp j))) b → eQ hp b := by
    rintro b ⟨x, hx⟩
    rcases key x b hx with ⟨_, h1 | h1⟩ | ⟨_, _, h1⟩
    · exact ⟨i, h1⟩
    · exact ⟨j, h1⟩
    · exact ⟨x, h1⟩
  refine ⟨h.keep, h.XG, fun x b hb => ?_, fun x => ?_, fun x y hxy b hx hy => ?_, fun x b hb => ?_⟩
  · rcases key x b hb with ⟨_, h1 | h1⟩ | ⟨_, _, h1⟩
    · exact h.Pn i b h1
    · exact h.Pn j b h1
    · exact h.Pn x b h1
  · by_cases e : x = i
    · subst e
      rw [bI]
      exact ⟨Chunk.sub (h.ok x) (fun b hb _ => hall b hb), Chunk.sub (h.ok j) (fun b hb _ => hall b hb), fun b hb => h.apart x j hij b hb⟩
    · rw [di e]
      by_cases e2 : x = j
      · subst e2; rw [bI]; trivial
      · rw [di e2]; exact Chunk.sub (h.ok x) (fun b hb _ => hall b hb)
  · rcases key x b hx with ⟨e1, h1⟩ | ⟨e1, e1', h1⟩ <;> rcases key y b hy with ⟨e2, h2⟩ | ⟨e2, e2', h2⟩
    · exact hxy (e1.trans e2.symm)
    · rcases h1 with h1 | h1
      · exact h.apart i y (fun e => e2 e.symm) b h1 h2
      · exact h.apart j y (fun e => e2' e.symm) b h1 h2
    · rcases h2 with h2 | h2
      · exact h.apart x i e1 b h1 h2
      · exact h.apart x j e1' b h1 h2
    · exact h.apart x y hxy b h1 h2
  · rcases key x b hb with ⟨_, h1 | h1⟩ | ⟨_, _, h1⟩
    · exact h.old i b h1
    · exact h.old j b h1
    · exact h.old x b h1
theorem SH.bG {a c : Chunk} (h : SH w0 M K w hp) (i j : Nat) (hij : i ≠ j) (hi : hp i = .two a c) (hj : hp j = .no) : SH w0 M K w (bH (bH hp i a) j c) := by
  have key : ∀ x b, (bH (bH hp i a) j c x).own' b → (x = i ∧ a.own' b) ∨ (x = j ∧ c.own' b) ∨ (x ≠ i ∧ x ≠ j ∧ (hp x).own' b) := by
    intro x b hb
    by_cases e : x = j
    · subst e; rw [bI] at hb; exact .inr (.inl ⟨rfl, hb⟩)
    · rw [di e] at hb
      by_cases e2 : x = i
      · subst e2; rw [bI] at hb; exact .inl ⟨rfl, hb⟩
      · rw [di e2] at hb; exact .inr (.inr ⟨e2, e, hb⟩)
  have hA : ∀ b, a.own' b → (hp i).own' b := fun b hb => by rw [hi]; exact .inl hb
  have hC : ∀ b, c.own' b → (hp i).own' b := fun b hb => by rw [hi]; exact .inr hb
  have hall : ∀ b, eQ (bH (bH hp i a) j c) b → eQ hp b := by
    rintro b ⟨x, hx⟩
    rcases key x b hx with ⟨_, h1⟩ | ⟨_, h1⟩ | ⟨_, _, h1⟩
    · exact ⟨i, hA b h1⟩
    · exact ⟨i, hC b h1⟩
    · exact ⟨x, h1⟩
  have hok := h.ok i
  rw [hi] at hok
  refine ⟨h.keep, h.XG, fun x b hb => ?_, fun x => ?_, fun x y hxy b hx hy => ?_, fun x b hb => ?_⟩
  · rcases key x b hb with ⟨_, h1⟩ | ⟨_, h1⟩ | ⟨_, _, h1⟩
    · exact h.Pn i b (hA b h1)
    · exact h.Pn i b (hC b h1)
    · exact h.Pn x b h1
  · by_cases e : x = j
    · subst e; rw [bI]; exact Chunk.sub hok.2.1 (fun b hb _ => hall b hb)
    · rw [di e]
      by_cases e2 : x = i
      · subst e2; rw [bI]; exact Chunk.sub hok.1 (fun b hb _ => hall b hb)
      · rw [di e2]; exact Chunk.sub (h.ok x) (fun b hb _ => hall b hb)
  · rcases key x b hx with ⟨e1, h1⟩ | ⟨e1, h1⟩ | ⟨e1, e1', h1⟩ <;> rcases key y b hy with ⟨e2, h2⟩ | ⟨e2, h2⟩ | ⟨e2, e2', h2⟩
    · exact hxy (e1.trans e2.symm)
    · exact hok.2.2 b h1 h2
    · exact h.apart i y (fun e => e2 e.symm) b (hA b h1) h2
    · exact hok.2.2 b h2 h1
    · exact hxy (e1.trans e2.symm)
    · exact h.apart i y (fun e => e2 e.symm) b (hC b h1) h2
    · exact h.apart x i e1 b h1 (hA b h2)
    · exact h.apart x i e1 b h1 (hC b h2)
    · exact h.apart x y hxy b h1 h2
  · rcases key x b hb with ⟨_, h1⟩ | ⟨_, h1⟩ | ⟨_, _, h1⟩
    · exact h.old i b (hA b h1)
    · exact h.old i b (hC b h1)
    · exact h.old x b h1
theorem SH.lendC (h : SH w0 M K w hp) (i : Nat) (hf : (hp i).Ij) : (hp i).holds w (fun b => M b ∨ rest hp i b) (hp i).own' ∧ (∀ b, (hp i).own' b → ¬ (M b ∨ rest hp i b)) ∧ (∀ b, (M b ∨ rest hp i b) → b < w.heap.size) := by
  refine ⟨Chunk.re hf (h.ok i) (fun b hb _ => ?_), fun b hb hm => ?_, fun b hb => ?_⟩
  · rcases hb with (hb | hb) | hb
    · exact .inl hb
    · exact .inr (iW hb)
    · exact .inr ⟨i, hb⟩
  · rcases hm with hm | ⟨j, hj, hm⟩
    · exact h.Pn i b hb hm
    · exact h.apart j i hj b hm hb
  · rcases hb with hb | ⟨j, _, hb⟩
    · exact Nat.lt_of_lt_of_le (h.XG b hb) h.keep.size
    · exact Chunk.lt (h.ok j) b hb
theorem SH.ZX {C : Chunk} (h : SH w0 M K w hp) (i : Nat) (hf : C.Ij) (hC : C.holds w' (fun b => M b ∨ rest hp i b) C.own') (hk : aI (hp i).own' w w') (hn : ∀ b, C.own' b → b < w.heap.size → (hp i).own' b) : SH w0 M K w' (bH hp i C) :=
  h.step i hk (fun _ hb _ => hb) hn (Chunk.re hf hC (fun b hb _ => by
    rcases hb with hb | hb | hb
    · exact .inl (.inl hb)
    · exact .inl (.inr hb)
    · exact .inr hb))
theorem SH.GA {C : Chunk} (hM : ∀ b, M b → b < w.heap.size) (hC : C.holds w M C.own') (hap : ∀ b, C.own' b → ¬ M b) : SH w M C.own' w (bH hno 1 C) := by
  have hall : ∀ b, eQ (bH hno 1 C) b → C.own' b := by
    rintro b ⟨j, hj⟩
    by_cases e : j = 1
    · subst e; rw [bI] at hj; exact hj
    · rw [di e] at hj; exact hj.elim
  refine ⟨aI.refl _ _, hM, fun i b hb => hap b (hall b ⟨i, hb⟩), fun i => ?_, fun i j hij b hb hb2 => ?_, fun i b hb _ => hall b ⟨i, hb⟩⟩
  · by_cases e : i = 1
    · subst e; rw [bI]; exact Chunk.sub hC (fun b hb _ => hall b hb)
    · rw [di e]; trivial
  · by_cases e : i = 1
    · have e2 : j ≠ 1 := fun h => hij (e.trans h.symm)
      rw [di e2] at hb2; exact hb2.elim
    · rw [di e] at hb; exact hb.elim
theorem SH.outC {C : Chunk} (h : SH w0 M K w hp) (i : Nat) (hi : hp i = C) (hf : C.Ij) : C.holds w M C.own' ∧ aI K w0 w ∧ (∀ b, C.own' b → b < w0.heap.size → K b) := by
  subst hi
  exact ⟨Chunk.re hf (h.ok i) (fun b hb _ => hb.imp id (fun hb => ⟨i, hb⟩)), h.keep, h.old i⟩
end
end Go.LX
namespace Go.LX
structure Val where
  kind : Int
  n : Int
deriving DecidableEq
def bM : jE Val where
  sz := 2
  rd w A cs x := cs = [.int .i64 x.kind, .int .i64 x.n]
  len := by rintro w A cs x rfl; rfl
  one := by rintro w A cs x rfl u hu; simp only [List.mem_cons, List.not_mem_nil, or_false] at hu; rcases hu with rfl | rfl <;> first | rfl
  pos := by decide
  go := fun h _ _ _ => h
structure Tok where
  kind : Int
  n : Int
deriving DecidableEq
def kD : jE Tok where
  sz := 2
  rd w A cs x := cs = [.int .i64 x.kind, .int .i64 x.n]
  len := by rintro w A cs x rfl; rfl
  one := by rintro w A cs x rfl u hu; simp only [List.mem_cons, List.not_mem_nil, or_false] at hu; rcases hu with rfl | rfl <;> first | rfl
  pos := by decide
  go := fun h _ _ _ => h
end Go.LX
namespace Go.LX
theorem gB.XQ {α : Type} {R R' : jE α} {w : World} {B A : BS} {v : Value} {l : List α} (hs : R.sz = R'.sz) (h : ∀ cs x, x ∈ l → R.rd w A cs x → R'.rd w A cs x) (hv : gB R w B A v l) : gB R' w B A v l := by
  obtain ⟨a, cap, rfl, h1, h2, h3, h4⟩ := hv
  refine ⟨a, cap, rfl, h1, h2, h3, fun i hi => ?_⟩
  obtain ⟨b, o, cells, E, fz, e1, e2, e3, e4⟩ := h4 i hi
  refine ⟨b, o, cells, E, fz, e1, e2, e3, ?_⟩
  rw [← hs]
  exact h _ _ (List.getElem_mem hi) e4
structure bu where
  kind : Int
  n : Int
  e : List Tok
  f : List Tok
  a : List bu
  b : List bu
def nu : Nat → { R : jE bu // R.sz = 6 }
  | 0 => ⟨{ sz := 6, rd := fun _ _ _ _ => False, len := fun h => h.elim, one := fun h => h.elim, pos := by decide, go := fun h => h.elim }, rfl⟩
  | d + 1 => ⟨{
      sz := 6
      rd := fun w A cs x => ∃ ve vf va vb, cs = [.int .i64 x.kind, .int .i64 x.n, ve, vf, va, vb] ∧ fu kD w A ve x.e ∧ fu kD w A vf x.f ∧ fu (nu d).1 w A va x.a ∧ fu (nu d).1 w A vb x.b
      len := by rintro w A cs x ⟨ve, vf, va, vb, rfl, _⟩; rfl
      one := by rintro w A cs x ⟨ve, vf, va, vb, rfl, h1, h2, h3, h4⟩ u hu; simp only [List.mem_cons, List.not_mem_nil, or_false] at hu; rcases hu with rfl | rfl | rfl | rfl | rfl | rfl <;> first | rfl | exact h1.one | exact h2.one | exact h3.one | exact h4.one
      pos := by decide
      go := by rintro w A cs x w2 A2 K ⟨ve, vf, va, vb, rfl, h1, h2, h3, h4⟩ hk hK hA; exact ⟨_, _, _, _, rfl, h1.go hk hK hA, h2.go hk hK hA, h3.go hk hK hA, h4.go hk hK hA⟩ }, rfl⟩
theorem BF : ∀ (d : Nat) {w : World} {A : BS} {cs : List Value} {x : bu}, (nu d).1.rd w A cs x → (nu (d + 1)).1.rd w A cs x
  | 0, _, _, _, _, h => h.elim
  | d + 1, _, _, _, _, h => by
    obtain ⟨ve, vf, va, vb, rfl, h1, h2, h3, h4⟩ := h
    exact ⟨ve, vf, va, vb, rfl, h1, h2, h3.XQ ((nu d).2.trans (nu (d + 1)).2.symm) (fun _ _ _ h => BF d h), h4.XQ ((nu d).2.trans (nu (d + 1)).2.symm) (fun _ _ _ h => BF d h)⟩
theorem KG {d d' : Nat} (hd : d ≤ d') {w : World} {A : BS} {cs : List Value} {x : bu} (h : (nu d).1.rd w A cs x) : (nu d').1.rd w A cs x := by
  induction hd with
  | refl => exact h
  | step _ ih => exact BF _ ih
def eD : jE bu where
  sz := 6
  rd w A cs x := ∃ d, (nu d).1.rd w A cs x
  len := by rintro w A cs x ⟨d, h⟩; exact ((nu d).1.len h).trans (nu d).2
  one := by rintro w A cs x ⟨d, h⟩; exact (nu d).1.one h
  pos := by decide
  go := by rintro w A cs x w2 A2 K ⟨d, h⟩ hk hK hA; exact ⟨d, (nu d).1.go h hk hK hA⟩
theorem UU {P : Nat → Nat → Prop} (hm : ∀ d d' i, d ≤ d' → P d i → P d' i) : ∀ n, (∀ i, i < n → ∃ d, P d i) → ∃ d, ∀ i, i < n → P d i
  | 0, _ => ⟨0, fun i hi => absurd hi (Nat.not_lt_zero _)⟩
  | n + 1, h => by
    obtain ⟨d, hd⟩ := UU hm n (fun i hi => h i (by omega))
    obtain ⟨d', hd'⟩ := h n (by omega)
    refine ⟨max d d', fun i hi => ?_⟩
    by_cases e : i = n
    · subst e; exact hm _ _ _ (Nat.le_max_right _ _) hd'
    · exact hm _ _ _ (Nat.le_max_left _ _) (hd i (by omega))
theorem Ik {w : World} {A : BS} {v : Value} {l : List bu} (h : fu eD w A v l) : ∃ d, ∀ d', d ≤ d' → fu (nu d').1 w A v l := by
  obtain ⟨a, cap, rfl, h1, h2, h3, h4⟩ := h
  have h5 := UU (P := fun d i => ∀ h : i < l.length, ∃ b o cells E fz, a = some ⟨b, o, none⟩ ∧ ¬ A b ∧ w.heap[b]? = some (.cells cells E fz) ∧ (nu d).1.rd w A ((cells.toList.drop (o + i * 6)).take 6) l[i])
    (fun d d' i hd hp h => let ⟨b, o, cells, E, fz, e1, e2, e3, e4⟩ := hp h; ⟨b, o, cells, E, fz, e1, e2, e3, KG hd e4⟩) l.length
    (fun i hi => by obtain ⟨b, o, cells, E, fz, e1, e2, e3, d, e4⟩ := h4 i hi; exact ⟨d, fun _ => ⟨b, o, cells, E, fz, e1, e2, e3, e4⟩⟩)
  obtain ⟨d, hd⟩ := h5
  refine ⟨d, fun d' hle => ⟨a, cap, rfl, h1, h2, h3, fun i hi => ?_⟩⟩
  obtain ⟨b, o, cells, E, fz, e1, e2, e3, e4⟩ := hd i hi hi
  exact ⟨b, o, cells, E, fz, e1, e2, e3, by rw [(nu d').2]; exact KG hle e4⟩
theorem Aq {w : World} {A : BS} {cs : List Value} {x : bu} (h : eD.rd w A cs x) : ∃ ve vf va vb, cs = [.int .i64 x.kind, .int .i64 x.n, ve, vf, va, vb] ∧ fu kD w A ve x.e ∧ fu kD w A vf x.f ∧ fu eD w A va x.a ∧ fu eD w A vb x.b := by
  obtain ⟨d, h⟩ := h
  cases d with
  | zero => exact h.elim
  | succ d =>
    obtain ⟨ve, vf, va, vb, rfl, h1, h2, h3, h4⟩ := h
    exact ⟨ve, vf, va, vb, rfl, h1, h2, h3.XQ (nu d).2 (fun _ _ _ h => ⟨d, h⟩), h4.XQ (nu d).2 (fun _ _ _ h => ⟨d, h⟩)⟩
theorem UW {w : World} {A : BS} {cs : List Value} {x : bu} (h : ∃ ve vf va vb, cs = [.int .i64 x.kind, .int .i64 x.n, ve, vf, va, vb] ∧ fu kD w A ve x.e ∧ fu kD w A vf x.f ∧ fu eD w A va x.a ∧ fu eD w A vb x.b) : eD.rd w A cs x := by
  obtain ⟨ve, vf, va, vb, rfl, h1, h2, h3, h4⟩ := h
  obtain ⟨d, hd⟩ := Ik h3
  obtain ⟨d', hd'⟩ := Ik h4
  exact ⟨max d d' + 1, ve, vf, va, vb, rfl, h1, h2, hd _ (Nat.le_max_left _ _), hd' _ (Nat.le_max_right _ _)⟩
structure eU where
  params : Int
  locals : Int
  body : List bu
def iU : jE eU where
  sz := 3
  rd w A cs x := ∃ GD, cs = [.int .i64 x.params, .int .i64 x.locals, GD] ∧ fu eD w A GD x.body
  len := by rintro w A cs x ⟨GD, rfl, h0⟩; rfl
  one := by rintro w A cs x ⟨GD, rfl, h0⟩ u hu; simp only [List.mem_cons, List.not_mem_nil, or_false] at hu; rcases hu with rfl | rfl | rfl <;> first | rfl | exact h0.one
  pos := by decide
  go := by rintro w A cs x w2 A2 K ⟨GD, rfl, h0⟩ hk hK hA; exact ⟨_, rfl, h0.go hk hK hA⟩
theorem sG {w : World} {A : BS} {cs : List Value} {x : eU} (h : iU.rd w A cs x) : ∃ GD, cs = [.int .i64 x.params, .int .i64 x.locals, GD] ∧ fu eD w A GD x.body := h
end Go.LX
namespace Go.LX
section
variable {α β σ ρ : Type}
theorem bnd {a : α} {f : α → Option β} : (some a).bind f = f a := Eq.trans (Option.bind_some a f) (Eq.refl _)
theorem mR {l : List α} {i : Nat} : idx l (i : Int) = l[i]? := by simp [idx]
theorem xE {l : List α} {i : Nat} (h : i < l.length) : idx l (i : Int) = some l[i] := by rw [mR, List.getElem?_eq_getElem h]
theorem xG {p : Prop} [Decidable p] {x : Option β} (h : p) : gL p x = x := if_pos h
theorem Zd {l : List α} {a b : Nat} (h : a ≤ b) (h2 : b ≤ l.length) : sub? l (a : Int) (b : Int) = some ((l.take b).drop a) := by
  unfold sub? cut
  rw [if_pos ⟨by omega, by omega, by omega⟩]
  simp
def all2 (p : α → β → Bool) : List α → List β → Bool
  | [], [] => true
  | x :: xs, y :: ys => p x y && all2 p xs ys
  | _, _ => false
theorem Eo [DecidableEq α] {p : α → α → Bool} (hp : ∀ x y, p x y = decide (x = y)) : ∀ (a b : List α), all2 p a b = decide (a = b)
  | [], [] => by simp [all2]
  | [], _ :: _ => by simp [all2]
  | _ :: _, [] => by simp [all2]
  | x :: xs, y :: ys => by simp [all2, hp, Eo hp xs ys]
theorem KH {body : Int → Unit → (Unit → Option Bool) → Option Bool} {kk : Unit → Option Bool} (p : α → β → Bool) (a : List α) (b : List β) (hl : a.length = b.length) (hk : kk () = some true)
    (hb : ∀ (i : Nat) x y nx, a[i]? = some x → b[i]? = some y → body (i : Int) () nx = bif p x y then nx () else some false) : upto body kk 0 a.length () = some (all2 p a b) := by
  have key : ∀ (m i : Nat), i + m = a.length → upto body kk (i : Int) m () = some (all2 p (a.drop i) (b.drop i)) := by
    intro m
    induction m with
    | zero =>
      intro i h
      rw [List.drop_eq_nil_of_le (by omega), List.drop_eq_nil_of_le (by omega)]
      exact hk
    | succ m ih =>
      intro i h
      have h1 : i < a.length := by omega
      have h2 : i < b.length := by omega
      rw [List.drop_eq_getElem_cons h1, List.drop_eq_getElem_cons h2]
      show body (i : Int) () (upto body kk ((i : Int) + 1) m) = _
      rw [hb i a[i] b[i] _ (List.getElem?_eq_getElem h1) (List.getElem?_eq_getElem h2)]
      cases hp : p a[i] b[i] with
      | true => simp only [cond_true, all2, hp, Bool.true_and]; exact ih (i + 1) (by omega)
      | false => simp [all2, hp]
  simpa using key a.length 0 (by omega)
theorem Il {body : Int → α → Unit → (Unit → Option Bool) → Option Bool} {kk : Unit → Option Bool} (p : α → β → Bool) (a : List α) (b : List β) (hl : a.length = b.length) (hk : kk () = some true)
    (hb : ∀ (i : Nat) x y nx, b[i]? = some y → body (i : Int) x () nx = bif p x y then nx () else some false) : eO body kk 0 a () = some (all2 p a b) := by
  have key : ∀ (l : List α) (i : Nat), i + l.length = b.length → eO body kk (i : Int) l () = some (all2 p l (b.drop i)) := by
    intro l
    induction l with
    | nil =>
      intro i h
      rw [List.drop_eq_nil_of_le (by simp at h; omega)]
      exact hk
    | cons x l ih =>
      intro i h
      simp only [List.length_cons] at h
      have h2 : i < b.length := by omega
      rw [List.drop_eq_getElem_cons h2]
      show body (i : Int) x () (eO body kk ((i : Int) + 1) l) = _
      rw [hb i x b[i] _ (List.getElem?_eq_getElem h2)]
      cases hp : p x b[i] with
      | true => simp only [cond_true, all2, hp, Bool.true_and]; exact ih (i + 1) (by omega)
      | false => simp [all2, hp]
  simpa using key a 0 (by omega)
theorem dT {p : Prop} [Decidable p] (h : p) : decide p = true := decide_eq_true h
theorem dF {p : Prop} [Decidable p] (h : ¬ p) : decide p = false := decide_eq_false h
theorem gI {x : Int} {y : Option β} (h1 : -9223372036854775808 ≤ x := by omega) (h2 : x ≤ 9223372036854775807 := by omega) : gL (jN x) y = y := xG (jN.mk h1 h2)
end
end Go.LX
namespace Go.LX
open Go.RowKit
def Nt (v : Value) (b : Bool) : Prop := (b = false ∧ v = .nilIface) ∨ (b = true ∧ ∃ t p, v = .iface t p)
theorem Nt.one {v : Value} {b : Bool} (h : Nt v b) : v.oneCell' = true := by
  rcases h with ⟨_, rfl⟩ | ⟨_, t, p, rfl⟩ <;> rfl
structure UX (P : Program) (T : TypeId) : Prop where
  desc : P.underlying T = some (.interface (P.methodsAt T))
def Ze {α : Type} (bytes : Nat) (k : Int) : Option (List α) := gL (0 ≤ k ∧ k * bytes ≤ 140737488355328) (some [])
section
variable {P : Program} {ops : Array Oper} {Q : Exit → Act → World → Prop} {n : Nat} {env : Nat → Value} {w w' w0 : World} {M K : BS} {hp : Nat → Chunk} {rest : List Oper}
  {d : Option Nat} {op : Op} {ty : TypeId} {pos : String} {af : Array Edge} {v : Value} {g : Option (Nat × Bool)} {T : TypeId} {ρ : Operand → Value} {x y : Operand}
theorem Fu {a b : Str} {T2 : TypeId} (hx : ρ x = aV a) (hy : ρ y = aV b) : (execOp ρ ⟨d, .binOp .eql T x y T2, ty, pos, af, g⟩).run P w = .ok (.value (.bool (decide (a = b)))) w := by
  simp [execOp, binOp, hx, hy, aV, Op.stringOp, eqGuard]; rw [Bool.eq_iff_iff]; simp
theorem Im {a b : Str} {T2 : TypeId} (hx : ρ x = aV a) (hy : ρ y = aV b) : (execOp ρ ⟨d, .binOp .neq T x y T2, ty, pos, af, g⟩).run P w = .ok (.value (.bool (decide (a ≠ b)))) w := by
  simp [execOp, binOp, hx, hy, aV, Op.stringOp, eqGuard]; rw [Bool.eq_iff_iff]; simp
theorem lY {a b : Str} {T2 : TypeId} (hx : ρ x = aV a) (hy : ρ y = aV b) (h : a.length + b.length ≤ 9223372036854775807) : (execOp ρ ⟨d, .binOp .add T x y T2, ty, pos, af, g⟩).run P w = .ok (.value (aV (a ++ b))) w := by
  have h2 := run_string_add_sum (P := P) (w := w) ⟨a.toArray⟩ ⟨b.toArray⟩ (by simpa [ByteArray.size] using h)
  have h3 : (⟨a.toArray⟩ ++ ⟨b.toArray⟩ : ByteArray) = ⟨(a ++ b).toArray⟩ := by
    apply ByteArray.ext; simp
  rw [h3] at h2
  simp [execOp, binOp, hx, hy, aV, eqGuard, h2]
theorem Sq {b : Bool} {T2 : TypeId} (hT : UX P T) (hx : ρ x = v) (hv : Nt v b) (hy : ρ (.const .nilIface) = .nilIface) : (execOp ρ ⟨d, .binOp .eql T x (.const .nilIface) T2, ty, pos, af, g⟩).run P w = .ok (.value (.bool !b)) w := by
  rcases hv with ⟨rfl, rfl⟩ | ⟨rfl, t, p, rfl⟩
  · simp [execOp, binOp, hx, hy, eqGuard, run_equal_nil_nil w T hT.desc]
  · simp [execOp, binOp, hx, hy, eqGuard, run_equal_held_nil w T t p hT.desc]
theorem LZ (s : Str) (a b : Nat) : (ByteArray.mk s.toArray).extract a b = ⟨((s.take b).drop a).toArray⟩ := by
  apply ByteArray.ext
  simp [ByteArray.data_extract, List.drop_take]
theorem o7 (s : Str) : (ByteArray.mk s.toArray).size = s.length := by simp [ByteArray.size]
def subs? (s : Str) (a b : Int) : Option Str := gL (0 ≤ a ∧ a ≤ b ∧ b ≤ s.length) (some (cut s a b))
theorem r_sls {s : Str} {lo hi : Option Operand} {a b : Int} (hT : P.underlying T = some .string) (hx : ρ x = aV s) (hlo : Di (lo.map ρ) a 0) (hhi : Di (hi.map ρ) b s.length) (ha : 0 ≤ a) (hab : a ≤ b) (hb : b ≤ s.length) :
    (execOp ρ ⟨d, .slice T x lo hi none, ty, pos, af, g⟩).run P w = .ok (.value (aV (cut s a b))) w := by
  obtain ⟨a, rfl⟩ := Int.eq_ofNat_of_zero_le ha
  obtain ⟨b, rfl⟩ := Int.eq_ofNat_of_zero_le (Int.le_trans ha hab)
  have hab' : a ≤ b := by omega
  have hb' : b ≤ s.length := by omega
  have hc : cut s (a : Int) (b : Int) = (s.take b).drop a := by simp [cut]
  have key : (Instr.slice T (aV s) (lo.map ρ) (hi.map ρ) none).run P w = .ok (aV ((s.take b).drop a)) w := by
    unfold aV
    rcases hlo with ⟨e1, e2⟩ | e1 <;> rcases hhi with ⟨e3, e4⟩ | e3
    · have e2' : a = 0 := by omega
      have e4' : b = s.length := by omega
      subst e2' e4'
      rw [e1, e3, run_slice_string_all w T _ hT, LZ, o7]
    · have e2' : a = 0 := by omega
      subst e2'
      rw [e1, e3, run_slice_string_to_if w T _ _ _ hT, if_pos ⟨by omega, by rw [o7]; omega⟩, LZ]; simp
    · have e4' : b = s.length := by omega
      subst e4'
      rw [e1, e3, run_slice_string_from_if w T _ _ _ hT, if_pos ⟨by omega, by rw [o7]; omega⟩, LZ, o7]; simp
    · rw [e1, e3, run_slice_string w T _ _ _ _ _ hT (by omega) (by omega) (by rw [o7]; omega), LZ]; simp
  rw [hc]
  simp only [execOp, Sem.run_bind, Sem.run_pure, hx, Option.map_none, run_sliceAt_string w T _ _ _ _ hT, key, Result.andThen_ok]
theorem Ps {s r : Str} {lo hi : Option Operand} {a b : Int} (he : r = cut s a b) (hT : P.underlying T = some .string) (hx : ρ x = aV s) (hlo : Di (lo.map ρ) a 0) (hhi : Di (hi.map ρ) b s.length) (ha : 0 ≤ a) (hab : a ≤ b) (hb : b ≤ s.length) :
    (execOp ρ ⟨d, .slice T x lo hi none, ty, pos, af, g⟩).run P w = .ok (.value (aV r)) w := by
  subst he
  exact r_sls hT hx hlo hhi ha hab hb
theorem Pt {s r : Str} {a b : Int} (h : subs? s a b = some r) : 0 ≤ a ∧ a ≤ b ∧ b ≤ s.length ∧ r = cut s a b := by
  obtain ⟨h1, h2⟩ := bg h
  exact ⟨h1.1, h1.2.1, h1.2.2, (Option.some.inj h2).symm⟩
end
end Go.LX
namespace Go.LX
open Go.RowKit
structure vK (P : Program) (g : Nat) (w : World) : Prop where
  pow : Lib.TabIs P w "internal/strconv.uint64pow10" .u64 Lib.pow10Tab
  syn : ∃ t p, w.var? P "strconv.ErrSyntax" = some #[.iface t p]
  ran : ∃ t p, w.var? P "strconv.ErrRange" = some #[.iface t p]
  max : ∃ m, w.cell? ⟨g, 0, none⟩ = some (.int .i64 m)
  many : P.globals.size ≤ w.heap.size
  gmax : g < P.globals.size
  asc : ∀ q, P.globalNamed "strings.asciiSpace" = some q → Lib.TabIs P w "strings.asciiSpace" .u8 Lib.asciiSpaceTab
theorem Grow.var {P : Program} {w w' : World} {s : String} {cs : Array Value} (hk : Grow w w') (h : w.var? P s = some cs) : w'.var? P s = some cs := by
  unfold World.var? at h ⊢
  cases hg : P.globalNamed s with
  | none => simp [hg] at h
  | some g =>
    simp only [hg, Option.bind_some] at h ⊢
    cases hb : w.heap[g]? with
    | none => simp [hb] at h
    | some o => rw [hk.blk hb]; rw [hb] at h; exact h
theorem Io {P : Program} {s : String} {i : Nat} (h : P.globalNamed s = some i) : i < P.globals.size := by
  unfold Program.globalNamed at h
  split at h
  · rename_i g hg
    cases h
    have : i ∈ (List.range P.globals.size).filter fun g => (P.globals[g]?).any (·.name == s) := by rw [hg]; simp
    exact List.mem_range.1 (List.mem_filter.1 this).1
  · cases h
theorem aI.var {P : Program} {K : BS} {w w' : World} {s : String} {cs : Array Value} (hk : aI K w w') (hK : ∀ b, K b → P.globals.size ≤ b) (h : w.var? P s = some cs) : w'.var? P s = some cs := by
  unfold World.var? at h ⊢
  cases hg : P.globalNamed s with
  | none => simp [hg] at h
  | some g =>
    have hl := Io hg
    simp only [hg, Option.bind_some] at h ⊢
    cases hb : w.heap[g]? with
    | none => simp [hb] at h
    | some o => rw [hk.blk hb (fun hq => absurd (hK _ hq) (by omega))]; rw [hb] at h; exact h
theorem vK.UY {P : Program} {g : Nat} {K : BS} {w w' : World} (h : vK P g w) (hk : aI K w w') (hK : ∀ b, K b → P.globals.size ≤ b) : vK P g w' := by
  obtain ⟨h1, ⟨t2, p2, h2⟩, ⟨t3, p3, h3⟩, ⟨m, h4⟩, h5, h6, h7⟩ := h
  refine ⟨hk.var hK h1, ⟨t2, p2, hk.var hK h2⟩, ⟨t3, p3, hk.var hK h3⟩, ⟨m, ?_⟩, Nat.le_trans h5 hk.size, h6, fun q hq => hk.var hK (h7 q hq)⟩
  unfold World.cell? at h4 ⊢
  cases hb : w.heap[g]? with
  | none => simp [hb] at h4
  | some o => rw [hk.blk hb (fun hq => absurd (hK _ hq) (by omega))]; rw [hb] at h4; exact h4
theorem vK.go {P : Program} {g : Nat} {w w' : World} (h : vK P g w) (hk : Grow w w') : vK P g w' := h.UY hk (fun _ h => h.elim)
theorem SH.Ip {P : Program} {g : Nat} {w0 w : World} {M K : BS} {hp : Nat → Chunk} {C : Chunk} (h : SH w0 M K w hp) (hT : vK P g w0) (hG : ∀ b, K b → P.globals.size ≤ b) (i : Nat) (hi : hp i = C) : ∀ b, C.own' b → P.globals.size ≤ b := by
  subst hi
  intro b hb
  rcases Nat.lt_or_ge b w0.heap.size with hl | hl
  · exact hG b (h.old i b hb hl)
  · exact Nat.le_trans hT.many hl
theorem Grow.drewN (w : World) (k : Nat) : Grow w (w.drewN k) := ⟨rfl, rfl, rfl, Nat.le_refl _, fun _ _ _ => rfl⟩
theorem Grow.Ze {w : World} {os : Array Obj} : Grow w (Sort.grow w os) := ⟨rfl, rfl, rfl, by simp [Sort.grow], fun b _ hb => by simp [Sort.grow, Array.getElem?_append_left hb]⟩
def KI (n : Int) : Option Str := gL (jN n) (some (Lib.itoa n))
def BG (s : Str) : Option (Int × Bool) := gL (s.length ≤ 281474976710656) (some (match Lib.atoiAll s with | .ok v => (v, false) | .range => (Lib.atoiSat s, true) | _ => (0, true)))
def UZ (l : List Str) (sep : Str) : Option Str := gL (l.length ≤ 140737488355328 ∧ (Lib.join l sep).length ≤ 140737488355328) (some (Lib.join l sep))
def L6 (s sep : Str) : Option (List Str) := gL (s.length < 4294967281 ∧ 1 ≤ sep.length) (some (Lib.split s sep))
section
variable {P : Program} {g : Nat} {w0 : World} {f : FuncId} {M : BS}
theorem ZY (hc : ∀ n, -9223372036854775808 ≤ n → n ≤ 9223372036854775807 → ∀ w, Lib.TabIs P w "internal/strconv.uint64pow10" .u64 Lib.pow10Tab → Calls P f #[.int .i64 n] w fun e w' => e = .returned (.string ⟨(Lib.itoa n).toArray⟩) ∧ ∃ k os, w' = Sort.grow (w.drewN k) os)
    (hT : vK P g w0) {a : Int} {r : Str} (hs : KI a = some r) : Calls P f #[.int .i64 a] w0 (fun e w' => Grow w0 w' ∧ e = .returned (aV r)) := by
  obtain ⟨h, hs⟩ := bg hs
  cases hs
  refine (hc a h.1 h.2 w0 hT.pow).mono ?_
  rintro e w' ⟨rfl, k, os, rfl⟩
  exact ⟨(Grow.drewN w0 k).trans Grow.Ze, rfl⟩
theorem XR (w : World) (t : TypeId) (s : ByteArray) : Grow w (Lib.bytesWorld w t s) := ⟨rfl, rfl, rfl, by rw [Lib.bytesWorld_size]; omega, fun b _ hb => Lib.bytesWorld_at_old w t _ b hb⟩
theorem ZZ {T5 Z0 T210 : TypeId} {nm : ByteArray} (h1 : ∀ s : ByteArray, s.size ≤ 9223372036854775806 → ∀ v, Lib.atoiAll s.data.toList = .ok v → ∀ w, Calls P f #[.string s] w fun e w' => e = .returned (.tuple #[.int .i64 v, .nilIface]) ∧ (w' = w ∨ ∃ t, w' = Lib.bytesWorld w T5 t))
    (h2 : ∀ s : ByteArray, s.size ≤ 281474976710656 → ∀ e, Lib.atoiAll s.data.toList = e → (∀ v, e ≠ .ok v) → e ≠ .range → ∀ tp p w, w.var? P "strconv.ErrSyntax" = some #[.iface tp p] → Calls P f #[.string s] w fun e w' => ∃ N, e = .returned (.tuple #[.int .i64 0, .iface Z0 (.pointer (some ⟨N, 0, none⟩))]) ∧ w.heap.size ≤ N ∧ w'.heap[N]? = some (.cells #[.string nm, .string s, .iface tp p] T210 (0, 0)) ∧ Below w.heap.size w w')
    (h3 : ∀ s : ByteArray, s.size ≤ 281474976710656 → Lib.atoiAll s.data.toList = .range → ∀ tp p w, w.var? P "strconv.ErrRange" = some #[.iface tp p] → Calls P f #[.string s] w fun e w' => ∃ N, e = .returned (.tuple #[.int .i64 (Lib.atoiSat s.data.toList), .iface Z0 (.pointer (some ⟨N, 0, none⟩))]) ∧ w.heap.size ≤ N ∧ w'.heap[N]? = some (.cells #[.string nm, .string s, .iface tp p] T210 (0, 0)) ∧ Below w.heap.size w w')
    (hT : vK P g w0) {s : Str} {r : Int × Bool} (hs : BG s = some r) : Calls P f #[aV s] w0 (fun e w' => Grow w0 w' ∧ ∃ u, e = .returned (.tuple #[.int .i64 r.1, u]) ∧ Nt u r.2) := by
  obtain ⟨h, hs⟩ := bg hs
  have hsz := o7 s
  cases hq : Lib.atoiAll s with
  | ok v =>
    rw [hq] at hs; cases hs
    refine (h1 ⟨s.toArray⟩ (by omega) v (by simpa using hq) w0).mono ?_
    rintro e w' ⟨rfl, hw⟩
    refine ⟨?_, _, rfl, .inl ⟨rfl, rfl⟩⟩
    rcases hw with rfl | ⟨t, rfl⟩
    · exact aI.refl _ _
    · exact XR _ _ _
  | range =>
    rw [hq] at hs; cases hs
    obtain ⟨t, p, hv⟩ := hT.ran
    refine (h3 ⟨s.toArray⟩ (by omega) (by simpa using hq) t p w0 hv).mono ?_
    rintro e w' ⟨N, rfl, _, _, hb⟩
    refine ⟨Grow.of_below hb, .iface Z0 (.pointer (some ⟨N, 0, none⟩)), by simp, .inr ⟨rfl, _, _, rfl⟩⟩
  | _ =>
    rw [hq] at hs; cases hs
    obtain ⟨t, p, hv⟩ := hT.syn
    refine (h2 ⟨s.toArray⟩ (by omega) _ (by simpa using hq) (fun v => by simp) (by simp) t p w0 hv).mono ?_
    rintro e w' ⟨N, rfl, _, _, hb⟩
    exact ⟨Grow.of_below hb, _, rfl, .inr ⟨rfl, _, _, rfl⟩⟩
theorem U0 {A B : BS} {a : Option Addr} {n c : Nat} {l : List Str} (hv : gB nY w0 B A (.slice a n c) l) (hl : 0 < l.length) : ∃ bk o, a = some ⟨bk, o, none⟩ ∧ bk < w0.heap.size ∧ ∀ j x, l[j]? = some x → w0.cell? ⟨bk, o + j, none⟩ = some (aV x) := by
  obtain ⟨a', cap, e1, h1, h2, h3, h4⟩ := hv
  cases e1
  obtain ⟨b, o, cells, E, fz, rfl, _, hb, _⟩ := h4 0 hl
  refine ⟨b, o, rfl, gK hb, fun j x hj => ?_⟩
  obtain ⟨hjl, hjx⟩ := List.getElem?_eq_some_iff.1 hj
  obtain ⟨b', o', cells', E2, fz2, e1, _, e2, e3⟩ := h4 j hjl
  cases e1
  have e4 : List.take 1 (List.drop (o + j * 1) cells'.toList) = [aV l[j]] := e3
  rw [Nat.mul_one] at e4
  have e5 : cells'.toList[o + j]? = some (aV l[j]) := by
    have := congrArg (·[0]?) e4
    simpa [List.getElem?_take, List.getElem?_drop] using this
  rw [← hjx]
  simpa [World.cell?, e2] using e5
theorem Z4 (h0 : ∀ (a : Option Addr) (c : Nat) (sep : ByteArray) (w : World), Calls P f #[.slice a 0 c, .string sep] w fun e w' => e = .returned (.string ⟨#[]⟩) ∧ w' = w)
    (h1 : ∀ (bk o c : Nat) (xs : List ByteArray) (sep : ByteArray) (w : World), (∀ (j : Nat) x, xs[j]? = some x → w.cell? ⟨bk, o + j, none⟩ = some (.string x)) → bk < w.heap.size → xs.length ≤ 140737488355328 → xs.length ≤ c → (Lib.join (xs.map (·.data.toList)) sep.data.toList).length ≤ 140737488355328 →
      Calls P f #[.slice (some ⟨bk, o, none⟩) xs.length c, .string sep] w fun e w' => e = .returned (.string ⟨(Lib.join (xs.map (·.data.toList)) sep.data.toList).toArray⟩) ∧ Below w.heap.size w w')
    {v : Value} {A B : BS} {l : List Str} {sep r : Str} (hv : gB nY w0 B A v l) (hs : UZ l sep = some r) : Calls P f #[v, aV sep] w0 (fun e w' => Grow w0 w' ∧ e = .returned (aV r)) := by
  obtain ⟨h, hs⟩ := bg hs
  cases hs
  have hv0 := hv
  obtain ⟨a, cap, rfl, k1, k2, k3, k4⟩ := hv
  cases l with
  | nil =>
    refine (h0 a cap _ w0).mono ?_
    rintro e w' ⟨rfl, rfl⟩
    exact ⟨aI.refl _ _, rfl⟩
  | cons x l =>
    obtain ⟨bk, o, rfl, hb, hc⟩ := U0 hv0 (by simp)
    have hm : ((x :: l).map fun s => (⟨s.toArray⟩ : ByteArray)).map (·.data.toList) = x :: l := by simp [Function.comp_def]
    have := h1 bk o cap ((x :: l).map fun s => ⟨s.toArray⟩) ⟨sep.toArray⟩ w0 (fun j y hj => by
      rw [List.getElem?_map] at hj
      cases hq : (x :: l)[j]? with
      | none => rw [hq] at hj; cases hj
      | some s => rw [hq] at hj; cases hj; exact hc j s hq) hb (by simpa using h.1) (by simpa using k1) (by rw [hm]; simpa using h.2)
    rw [hm, List.length_map] at this
    refine this.mono ?_
    rintro e w' ⟨rfl, hw⟩
    exact ⟨Grow.of_below hw, by simp [aV]⟩
theorem Ro {E : TypeId} {l : List ByteArray} {A : BS} {cells : Array Value} {cap : Nat} (w : World) (hA : ∀ b, A b → b < w.heap.size) (hcap : l.length ≤ cap) (hm : cap ≤ maxLen) (hcells : ∀ j (h : j < l.length), cells[j]? = some (.string l[j])) : fu nY (w.alloc (.cells cells E)) A (.slice (some ⟨w.heap.size, 0, none⟩) l.length cap) (l.map (·.data.toList)) := by
  refine ⟨some ⟨w.heap.size, 0, none⟩, cap, by simp, by simpa using hcap, hm, (fun h => by cases h), fun j hj => ⟨w.heap.size, 0, cells, E, (0, 0), rfl, ?_, Cw w _, ?_⟩⟩
  · intro hb; exact Nat.lt_irrefl _ (hA _ hb)
  · have hj' : j < l.length := by simpa using hj
    show List.take 1 (List.drop (0 + j * 1) cells.toList) = _
    have hc := hcells j hj'
    have hjl : j < cells.toList.length := by
      rw [Array.length_toList]
      rcases Nat.lt_or_ge j cells.size with q | q
      · exact q
      · rw [Array.getElem?_eq_none q] at hc; cases hc
    rw [Nat.zero_add, Nat.mul_one, List.drop_eq_getElem_cons hjl]
    have : cells.toList[j] = .string l[j] := by
      have := hc
      rw [← Array.getElem?_toList, List.getElem?_eq_getElem hjl] at this
      exact Option.some.inj this
    rw [this]
    simp [aV]
theorem XT {E : TypeId} (hc : ∀ (s sep : ByteArray) (m : Int) (w : World), s.size < 4294967281 → w.cell? ⟨g, 0, none⟩ = some (.int .i64 m) → 1 ≤ sep.size →
    Calls P f #[.string s, .string sep] w fun e w' => e = .returned (.slice (some ⟨w.heap.size, 0, none⟩) (Lib.countB s sep + 1) (Lib.countB s sep + 1)) ∧ w' = w.alloc (.cells ((Lib.splitB sep 0 (Lib.countB s sep) s).map Value.string).toArray E))
    (hM : ∀ b, M b → b < w0.heap.size) (hT : vK P g w0) {s sep : Str} {r : List Str} (hs : L6 s sep = some r) : Calls P f #[aV s, aV sep] w0 (fun e w' => Grow w0 w' ∧ ∃ u, e = .returned u ∧ fu nY w' M u r) := by
  obtain ⟨h, hs⟩ := bg hs
  cases hs
  obtain ⟨m, hm⟩ := hT.max
  refine (hc ⟨s.toArray⟩ ⟨sep.toArray⟩ m w0 (by rw [o7]; exact h.1) hm (by rw [o7]; exact h.2)).mono ?_
  rintro e w' ⟨rfl, rfl⟩
  refine ⟨Grow.alloc _ _, _, rfl, ?_⟩
  have h1 := Lib.splitB_all ⟨sep.toArray⟩ (by rw [o7]; exact h.2) 0 _ ⟨s.toArray⟩ rfl
  have h2 := Lib.splitB_data ⟨sep.toArray⟩ 0 (Lib.countB ⟨s.toArray⟩ ⟨sep.toArray⟩) ⟨s.toArray⟩
  have h3 : Lib.countB ⟨s.toArray⟩ ⟨sep.toArray⟩ = Lib.count s sep := by simp [Lib.countB]
  have h4 := Lib.countB_le ⟨sep.toArray⟩ (by rw [o7]; exact h.2) _ ⟨s.toArray⟩ (Nat.le_refl _)
  rw [o7] at h4
  have := Ro (E := E) (l := Lib.splitB ⟨sep.toArray⟩ 0 (Lib.countB ⟨s.toArray⟩ ⟨sep.toArray⟩) ⟨s.toArray⟩) (cap := Lib.countB ⟨s.toArray⟩ ⟨sep.toArray⟩ + 1) (cells := ((Lib.splitB ⟨sep.toArray⟩ 0 (Lib.countB ⟨s.toArray⟩ ⟨sep.toArray⟩) ⟨s.toArray⟩).map Value.string).toArray) w0 hM (by rw [h1]; exact Nat.le_refl _) (by unfold maxLen; omega) (fun j hj => by simp [hj])
  rw [h1, h2] at this
  simpa [Lib.split, h3] using this
end
end Go.LX
namespace Go.LX
open Go.RowKit
section
variable {P : Program} {ops : Array Oper} {Q : Exit → Act → World → Prop} {n : Nat} {env : Nat → Value} {w w' w0 : World} {M K : BS} {hp : Nat → Chunk} {rest : List Oper}
  {d : Option Nat} {op : Op} {ty : TypeId} {pos : String} {af : Array Edge} {v : Value} {g : Option (Nat × Bool)} {T : TypeId} {ρ : Operand → Value} {x y : Operand} {i fuel : Nat} {listed : Array Bool}
theorem SH.rD {c : Chunk} (h : SH w0 M K w hp) (i : Nat) (hi : hp i = c) (hk : aI c.own' w w') : SH w0 M K w' (bH hp i .no) :=
  h.step i hk (fun b hb _ => by rw [hi]; exact hb) (fun b hb => hb.elim) trivial
theorem SH.BH {c e : Chunk} (h : SH w0 M K w hp) (i j : Nat) (hij : i ≠ j) (hi : hp i = c) (hj : hp j = e) (hk : aI (fun b => c.own' b ∨ e.own' b) w w') : SH w0 M K w' (bH (bH (bH hp j .no) i (.two (hp i) (hp j))) i .no) := by
  refine (h.pair i j hij).rD i (c := .two (hp i) (hp j)) (bI _ _ _) ?_
  rw [hi, hj]
  exact hk
theorem uS {zs : List Value} (h : SH w0 M K w hp) (i : Nat) (hT : wJ P T zs) (k : ∀ w' b, SH w0 M K w' (bH hp i (.blk b zs)) → Grow w w' → w.heap.size ≤ b → WL P ops Q rest n (jJ env d (.pointer (some ⟨b, 0, none⟩))) w') : WL P ops Q (⟨d, .alloc T, ty, pos, af, none⟩ :: rest) n env w :=
  aa (Nh hT) (k _ _ (h.XM i zs T) (Grow.alloc _ _) (Nat.le_refl _))
theorem rX {z : Value} {b o : Nat} {cs : List Value} (h : SH w0 M K w hp) (i : Nat) (cs' : List Value) (hi : hp i = .blk b cs) (hT : One P T z) (hx : ev n env x = .pointer (some ⟨b, o, none⟩)) (hy : ev n env y = v) (ho : cs.set o v = cs') (hl : Nat.blt o cs.length = true) (hv : v.oneCell' = true)
    (k : ∀ w', SH w0 M K w' (bH hp i (.blk b cs')) → aI (fun x => x = b) w w' → WL P ops Q rest n (jJ env d undef) w') :
    WL P ops Q (⟨d, .store T x y, ty, pos, af, none⟩ :: rest) n env w := by
  obtain ⟨E, hb⟩ := h.qV i hi
  have := h.XN i hi cs' E
  subst ho
  have h2 := El (d := d) (ty := ty) (pos := pos) (af := af) (g := none) hT hx hb (by rw [Nat.blt_eq] at hl; simpa using hl) hy hv
  refine tJ h2 (k _ ?_ (aI.qW _ _ _))
  simpa using this
theorem qY {zs vs : List Value} {b o : Nat} {cs : List Value} (h : SH w0 M K w hp) (i : Nat) (cs' : List Value) (hi : hp i = .blk b cs) (hT : wJ P T zs) (hx : ev n env x = .pointer (some ⟨b, o, none⟩)) (hy : ev n env y = .agg vs.toArray) (hl : vs.length = zs.length) (ho : Ej cs o vs = cs') (hb : Nat.ble (o + vs.length) cs.length = true) (hv : ∀ v ∈ vs, v.oneCell' = true)
    (k : ∀ w', SH w0 M K w' (bH hp i (.blk b cs')) → aI (fun x => x = b) w w' → WL P ops Q rest n (jJ env d undef) w') :
    WL P ops Q (⟨d, .store T x y, ty, pos, af, none⟩ :: rest) n env w := by
  obtain ⟨E, hb'⟩ := h.qV i hi
  subst ho
  exact tJ (Ic hT hx hb' hy hl (Nat.le_of_ble_eq_true hb) hv) (k _ (h.XN i hi _ E) (aI.qW _ _ _))
theorem mU {α : Type} {R : jE α} {E : TypeId} {sz bytes : Nat} {u : Value} {l m : List α} (h : SH w0 M K w hp) (i : Nat) (hi : hp i = .own R E v l) (hu : gB R w BE (SH.A M hp) u m) (hT : oh P T E sz bytes) (hs : R.sz = sz) (hx : ev n env x = v) (hy : ev n env y = u)
    (hb : (l.length + m.length) * bytes ≤ 140737488355328) (hm : l.length + m.length ≤ 9223372036854775807)
    (k : ∀ w' v', SH w0 M K w' (bH hp i (.own R E v' (l ++ m))) → aI (ob v) w w' → (∀ b, ob v' b → b < w.heap.size → ob v b) → WL P ops Q rest n (jJ env d v') w') :
    WL P ops Q (⟨d, .call { callee := .builtin .append, args := #[x, y], argTypes := #[T, T] }, ty, pos, af, none⟩ :: rest) n env w := by
  obtain ⟨v', w', h1, h2, h3, h4⟩ := Rb (d := d) (ty := ty) (pos := pos) (af := af) (g := none) hT hs hx (h.dD i hi) hy hu (fun b hb => .inr ⟨i, by rw [hi]; exact hb⟩) hb hm
  refine aa h1 (k w' v' (h.step i h3 (fun b hb _ => by rw [hi]; exact hb) (fun b hb hl => by rw [hi]; exact h4 b hb hl) ?_) h3 h4)
  refine dW.go h2 (aI.refl BE w') (fun _ h => h.elim) (fun _ h => h.elim) (fun b hb _ => ?_)
  rcases hb with hb | hb | hb
  · exact .inl (.inl hb)
  · exact .inl (.inr (iW hb))
  · exact .inr hb
theorem ko {fn : Func} {R : Ending → World → Prop} {u a : Tmp} {T : TypeId} {v2 : Value} {zs vs : List Value} {b : Nat} (hr : fn.results = #[.cell a T, .tmp u]) (ha : ev n env (.tmp a) = .pointer (some ⟨b, 0, none⟩)) (h2 : ev n env (.tmp u) = v2)
    (h0 : SH w0 M K w hp) (i : Nat) (hi : hp i = .blk b vs) (hT : wJ P T zs) (hl : vs.length = zs.length) (h : R (.returned (.tuple #[.agg vs.toArray, v2])) w) : bodyPost P fn R .ret (act n env) w := by
  refine ⟨rfl, _, ?_, h⟩
  have e2 := congrFun (gD n env) (.tmp u)
  have e3 := congrFun (gD n env) (.tmp a)
  rw [h2] at e2
  rw [ha] at e3
  simp only [Act.eval] at e2 e3
  rw [Array.getD_eq_getD_getElem?] at e2 e3
  have hl2 := Ao (P := P) h0 hi hT hl rfl
  unfold results
  rw [hr]
  simp [e2, e3, asAddr, hl2]
theorem At.grow {b o : Nat} {cs : List Value} (h : At w b o cs) (hk : Grow w w') : At w' b o cs := by
  obtain ⟨cells, E, fz, h1, h2⟩ := h
  exact ⟨cells, E, fz, hk.blk h1, h2⟩
theorem KJ {ws w : World} {v u : Value} (hz : ws.heap.size ≤ w.heap.size) (hv : ∀ b, ob v b → ws.heap.size ≤ b) (hn : ∀ b, ob u b → b < w.heap.size → ob v b) : ∀ b, ob u b → ws.heap.size ≤ b :=
  fun b hb => Nat.le_of_not_lt fun hl => Nat.not_lt_of_le (hv b (hn b hb (Nat.lt_of_lt_of_le hl hz))) hl
end
end Go.LX
namespace Go.LX
open Go.RowKit Go.ChangeShapes
theorem L8 {H : Type} {enc : TypeId × Value → H} {a : Assume} {C : Checked} {os : Os} {f : FuncId} {fn : Func} {s : ChangeSpec} {conds : List PathCond} {apart fresh handsOn again : Bool} {X : World → Array Value → Prop}
    (hX : ∀ (w w' : World) (args : Array Value), w.heap = w'.heap → X w args → X w' args)
    (own : ownKnob C.prog.godebug = none) (started : os.Started) (noInit : C.prog.inits.idxOf? f = none) (hfn : C.prog.funcs[f]? = some fn)
    (witness : ∃ (w : World) (tape : Tape) (i : Input), w.os = os ∧ (w.forCall tape i).Shaped C.prog ∧ i.vars = [] ∧ Input.okWide C.prog (w.forCall tape i) .any w.heap.size f i ∧
      ((s.pre enc C.prog fn conds apart (w.forCall tape i).memory i.args ∧ X (w.forCall tape i).memory i.args) ∧ sizedMet enc C.prog fn (OpenSpec.ofChange s) apart (w.forCall tape i).memory i.args) ∧ a.holds C.prog (lone (Frame.enter C.prog f i.args .normal) [] (w.forCall tape i)))
    (contract : ∀ (W : World) (base : Nat) (args : Array Value) (ds gs : List (DataW H)) (before : List MemPlace),
      (∀ (j : Nat) t v, fn.params[j]? = some t → args[j]? = some v → Value.okWide C.prog W .any base t v) →
      DataW.Whole enc C.prog fn.params.toList s.vars apart W args.toList ds gs before →
      conds.all (PathCond.test C.prog ⟨fn.params.toList, ds, s.plain.varTypes C.prog, gs⟩) = true → X W args → W.ShapedOpen C.prog →
      Calls C.prog f args W fun e W' => ∃ v, e = .returned v ∧ s.post enc C.prog fn apart fresh handsOn again W args v W') :
    ReturnsInHanded a C os f .any (fun w args => (s.pre enc C.prog fn conds apart w args ∧ X w args) ∧ sizedMet enc C.prog fn (OpenSpec.ofChange s) apart w args) (s.post enc C.prog fn apart fresh handsOn again) := by
  refine returnsInHanded_of_calls own started noInit witness ?_
  intro w tape i _ hsh _ hok hpre _
  obtain ⟨_, _, _, fn', hfn', _, _, _, _, hval⟩ := hok
  have e : fn' = fn := Option.some.inj (hfn'.symm.trans hfn)
  subst e
  obtain ⟨⟨⟨ds, gs, before, hw, hc⟩, hx⟩, _⟩ := hpre
  have hw' := DataW.Whole.of_heap (w' := w.forCall tape i) (by rfl) hw
  refine (contract (w.forCall tape i) w.heap.size i.args ds gs before hval hw' hc (hX _ _ _ (by rfl) hx) hsh).mono fun e W' ⟨v, he, hp⟩ => ?_
  subst he
  exact ChangeSpec.post_blind hp
def U1 (w : World) (g : Nat) (tab : Array Value) : World :=
  { w with heap := w.heap.modify g fun | .cells _ t fz => .cells tab t fz | o => o }
def Nu : DataW Unit → Array Value
  | .agg l => (l.map fun | .lit (.int k z) => Value.int k z | _ => Value.nilIface).toArray
  | _ => #[]
end Go.LX
namespace Go.LX
open Go.RowKit Go.Proofs
section
variable {P : Program} {ops : Array Oper} {Q : Exit → Act → World → Prop} {n : Nat} {env : Nat → Value} {w w' w0 : World} {M K : BS} {hp : Nat → Chunk} {rest : List Oper}
  {d : Option Nat} {op : Op} {ty : TypeId} {pos : String} {af : Array Edge} {v : Value} {g : Option (Nat × Bool)} {T : TypeId} {ρ : Operand → Value} {x y : Operand} {i fuel : Nat} {listed : Array Bool}
theorem SH.U2 {S : Pce} (h : SH w0 M K w hp) (i : Nat) (hi : hp i = .gZ S) : S.P w (SH.A M hp) := by
  have := h.ok i; rw [hi] at this; exact this
theorem SH.Ar {S S' : Pce} (h : SH w0 M K w hp) (i : Nat) (hi : hp i = .gZ S) (hP : S'.P w' (SH.A M hp)) (hk : aI S.own w w') (hn : ∀ b, S'.own b → b < w.heap.size → S.own b) : SH w0 M K w' (bH hp i (.gZ S')) := by
  refine h.step i hk (fun b hb _ => by rw [hi]; exact hb) (fun b hb hl => by rw [hi]; exact hn b hb hl) ?_
  refine S'.go hP (aI.refl BE w') (fun _ h => h.elim) (fun _ h => h.elim) (fun b hb _ => ?_)
  rcases hb with hb | hb | hb
  · exact .inl (.inl hb)
  · exact .inl (.inr (iW hb))
  · exact .inr hb
end
end Go.LX
namespace Go.LX
open Go.RowKit Go.Proofs
structure GY (α β : Type) where
  sz : Nat
  enc : α → Value → List Value
  sub : α → List β
  put : α → List β → α
  len : ∀ x u, (enc x u).length = sz
  one : ∀ x u, u.oneCell' = true → ∀ c ∈ enc x u, c.oneCell' = true
  pos : 0 < sz
  L9 : ∀ x s u, enc (put x s) u = enc x u
  Ma : ∀ x s, sub (put x s) = s
def GY.raw {α β : Type} (N : GY α β) : jE (α × Value) where
  sz := N.sz
  rd _ _ cs p := cs = N.enc p.1 p.2 ∧ p.2.oneCell' = true
  len := by rintro w A cs x ⟨rfl, _⟩; exact N.len _ _
  one := by rintro w A cs x ⟨rfl, h⟩; exact N.one _ _ h
  pos := N.pos
  go := fun h _ _ _ => h
def hn : Nat → Prop := fun _ => False
def hat (k : Nat) : Nat → Prop := fun i => i = k
def xc (ho : Nat → Prop) (us : List Value) : BS := fun b => ∃ i u, us[i]? = some u ∧ ¬ ho i ∧ ob u b
def XU {β : Type} (R : jE β) (E : TypeId) (ho : Nat → Prop) (us : List Value) (ss : List (List β)) (w : World) (A : BS) : Prop :=
  us.length = ss.length ∧
  (∀ i u s, us[i]? = some u → ss[i]? = some s → ¬ ho i → dW R E w (fun b => A b ∨ xc ho us b) u s) ∧
  (∀ i j u v, i ≠ j → ¬ ho i → ¬ ho j → us[i]? = some u → us[j]? = some v → ∀ b, ob u b → ¬ ob v b)
theorem XU.at {β : Type} {R : jE β} {E : TypeId} {ho : Nat → Prop} {us : List Value} {ss : List (List β)} {w : World} {A : BS} (h : XU R E ho us ss w A) {i : Nat} {u : Value} (hu : us[i]? = some u) : ∃ s, ss[i]? = some s := by
  have : i < us.length := by
    rcases Nat.lt_or_ge i us.length with h | h
    · exact h
    · rw [List.getElem?_eq_none h] at hu; cases hu
  exact ⟨ss[i]'(h.1 ▸ this), List.getElem?_eq_getElem _⟩
def dC {β : Type} (R : jE β) (E : TypeId) (ho : Nat → Prop) (us : List Value) (ss : List (List β)) : Pce where
  own := xc ho us
  P w A := XU R E ho us ss w A
  lt := by
    rintro w A b h ⟨i, u, h1, h2, h3⟩
    obtain ⟨s, hs⟩ := h.at h1
    exact (h.2.1 i u s h1 hs h2).lt b h3
  go := by
    rintro w w' A A' K ⟨h1, h2, h3⟩ hk hK hKo hA
    refine ⟨h1, fun i u s hu hs hi => (h2 i u s hu hs hi).go hk (fun b hb hl => .inl (hK b hb hl)) (fun b hb ho => hKo b hb ⟨i, u, hu, hi, ho⟩) (fun b hb hl => ?_), h3⟩
    rcases hb with hb | hb
    · exact .inl (hA b hb hl)
    · exact .inl (.inr hb)
section
variable {α β : Type} {N : GY α β} {R : jE β} {E Es T : TypeId} {w0 w w' : World} {M K A : BS} {hp : Nat → Chunk} {v u u' : Value} {us XV : List Value} {L L' : List α} {ss ss' : List (List β)} {s : List β} {x y : α} {k : Nat} {ho ho' : Nat → Prop}
theorem Cz (hp : Nat → Chunk) (i : Nat) (a c : Chunk) : bH (bH hp i a) i c = bH hp i c := by
  funext j
  by_cases e : j = i
  · subst e; rw [bI, bI]
  · rw [di e, di e, di e]
theorem SH.KL (h : SH w0 M K w hp) (j : Nat) (hj : hp j = .gZ (dC R E ho us ss)) : XU R E ho us ss w (SH.A M hp) := h.U2 j hj
theorem SH.iM (h : SH w0 M K w hp) (j : Nat) (hj : hp j = .gZ (dC R E ho us (L.map N.sub))) : us.length = L.length := by
  have := (h.KL j hj).1
  rw [List.length_map] at this
  exact this
theorem dR (h : us.length = L.length) : (L.zip us).length = L.length := by rw [List.length_zip]; omega
theorem fE (hk : L[k]? = some x) (hu : us[k]? = some u) : (L.zip us)[k]? = some (x, u) := by
  rw [List.getElem?_zip_eq_some]; exact ⟨hk, hu⟩
theorem Iq (hu : us[k]? = some u) : (L.zip us).set k (y, u) = (L.set k y).zip us := by
  apply List.ext_getElem?
  intro i
  rw [List.getElem?_set]
  by_cases e : k = i
  · subst e
    rw [if_pos rfl]
    by_cases hl : k < L.length
    · rw [fE (x := y) (u := u) (by rw [List.getElem?_set_self hl]) hu]
      have : k < us.length := by
        rcases Nat.lt_or_ge k us.length with h | h
        · exact h
        · rw [List.getElem?_eq_none h] at hu; cases hu
      rw [if_pos (by rw [List.length_zip]; omega)]
    · rw [if_neg (by rw [List.length_zip]; omega), List.getElem?_eq_none (by rw [List.length_zip, List.length_set]; omega)]
  · rw [if_neg e]
    simp only [List.zip_eq_zipWith, List.getElem?_zipWith, List.getElem?_set_ne e]
theorem Nv (hk : L[k]? = some x) : (L.zip us).set k (x, u) = L.zip (us.set k u) := by
  apply List.ext_getElem?
  intro i
  rw [List.getElem?_set]
  by_cases e : k = i
  · subst e
    rw [if_pos rfl]
    by_cases hl : k < us.length
    · rw [fE (x := x) (u := u) hk (by rw [List.getElem?_set_self hl])]
      have : k < L.length := by
        rcases Nat.lt_or_ge k L.length with h | h
        · exact h
        · rw [List.getElem?_eq_none h] at hk; cases hk
      rw [if_pos (by rw [List.length_zip]; omega)]
    · rw [if_neg (by rw [List.length_zip]; omega), List.getElem?_eq_none (by rw [List.length_zip, List.length_set]; omega)]
  · rw [if_neg e]
    simp only [List.zip_eq_zipWith, List.getElem?_zipWith, List.getElem?_set_ne e]
theorem BI (hk : L[k]? = some y) : L.set k y = L := by
  apply List.ext_getElem?
  intro i
  rw [List.getElem?_set]
  by_cases e : k = i
  · subst e
    by_cases hl : k < L.length
    · rw [if_pos rfl, if_pos hl, hk]
    · rw [List.getElem?_eq_none (by omega)] at hk; cases hk
  · rw [if_neg e]
theorem kr {z : α} (hk : L[k]? = some x) : (L.set k z)[k]? = some z := by
  rw [List.getElem?_set_self]
  rcases Nat.lt_or_ge k L.length with h | h
  · exact h
  · rw [List.getElem?_eq_none h] at hk; cases hk
theorem Sr (hu : us[k]? = some u) : (us.set k u')[k]? = some u' := kr hu
theorem Z5 {l l' : List (α × Value)} (h : dW N.raw E w A v l) (hl : l'.length = l.length) (he : ∀ (i : Nat) (p p' : α × Value), l[i]? = some p → l'[i]? = some p' → N.enc p'.1 p'.2 = N.enc p.1 p.2 ∧ p'.2 = p.2) : dW N.raw E w A v l' := by
  obtain ⟨xs, h1, h2⟩ := h
  refine ⟨xs, by rw [hl]; exact h1, fun i hi => ?_⟩
  obtain ⟨e1, e2⟩ := h2 i (hl ▸ hi)
  obtain ⟨q1, q2⟩ := he i _ _ (List.getElem?_eq_getElem (hl ▸ hi)) (List.getElem?_eq_getElem hi)
  exact ⟨e1.trans q1.symm, by rw [q2]; exact e2⟩
theorem SH.rawRe (h : SH w0 M K w hp) (i : Nat) (hi : hp i = .own N.raw E v (L.zip us)) (hk : L[k]? = some x) (hy : ∀ u, N.enc y u = N.enc x u) : SH w0 M K w (bH hp i (.own N.raw E v ((L.set k y).zip us))) := by
  refine h.step i (aI.refl BE w) (fun _ h => h.elim) (fun b hb _ => by rw [hi]; exact hb) ?_
  have ho := h.ok i
  rw [hi] at ho
  refine Chunk.sub (O := eQ hp) (c := .own N.raw E v ((L.set k y).zip us)) ?_ (fun b hb _ => ?_)
  · refine Z5 ho (by rw [List.length_zip, List.length_zip, List.length_set]) (fun i p p' hp hp' => ?_)
    rw [List.getElem?_zip_eq_some] at hp hp'
    rw [List.getElem?_set] at hp'
    have e2 := Option.some.inj (hp.2.symm.trans hp'.2)
    by_cases e : k = i
    · subst e
      have hl : k < L.length := by
        rcases Nat.lt_or_ge k L.length with h | h
        · exact h
        · rw [List.getElem?_eq_none h] at hk; cases hk
      rw [if_pos rfl, if_pos hl] at hp'
      have e3 := Option.some.inj hp'.1
      have e4 := Option.some.inj (hk.symm.trans hp.1)
      rw [← e2, ← e3, ← e4]
      exact ⟨hy _, rfl⟩
    · rw [if_neg e] at hp'
      have e3 := Option.some.inj (hp.1.symm.trans hp'.1)
      rw [← e2, ← e3]
      exact ⟨rfl, rfl⟩
  · rcases hb with hb | hb
    · exact iW hb
    · exact ⟨i, by rw [hi]; exact hb⟩
theorem SH.U3 (h : SH w0 M K w hp) (j : Nat) (hj : hp j = .gZ (dC R E ho us ss)) (hl : XV.length = ss'.length) (he : ∀ i, ¬ ho i → XV[i]? = us[i]? ∧ ss'[i]? = ss[i]?) : SH w0 M K w (bH hp j (.gZ (dC R E ho XV ss'))) := by
  have hf := h.KL j hj
  have hown : ∀ b, xc ho XV b → xc ho us b := fun b ⟨i, u, h1, h2, h3⟩ => ⟨i, u, (he i h2).1 ▸ h1, h2, h3⟩
  refine h.Ar j hj ?_ (aI.refl _ _) (fun b hb _ => hown b hb)
  refine ⟨hl, fun i u s hu hs hi => ?_, fun i j u v hij hi hj' hu hv => hf.2.2 i j u v hij hi hj' ((he i hi).1 ▸ hu) ((he j hj').1 ▸ hv)⟩
  refine (hf.2.1 i u s ((he i hi).1 ▸ hu) ((he i hi).2 ▸ hs) hi).go (aI.refl BE w) (fun _ h => h.elim) (fun _ h => h.elim) (fun b hb _ => .inl (hb.imp id (hown b)))
theorem SH.Z6 (h : SH w0 M K w hp) (j : Nat) (y : α) (hj : hp j = .gZ (dC R E (hat k) us (L.map N.sub))) : SH w0 M K w (bH hp j (.gZ (dC R E (hat k) us ((L.set k y).map N.sub)))) := by
  refine h.U3 j hj ?_ (fun i hi => ⟨rfl, ?_⟩)
  · rw [List.length_map, List.length_set]; exact h.iM j hj
  · rw [List.map_set, List.getElem?_set_ne (fun e => hi e.symm)]
theorem SH.Rp (h : SH w0 M K w hp) (j m : Nat) (hj : hp j = .gZ (dC R E ho us ss)) (hm : hp m = .no) (hjm : j ≠ m) (hu : us[k]? = some u) (hs : ss[k]? = some s) (hk : ¬ ho k) (ho' : Nat → Prop) (h' : ∀ i, ho' i ↔ ho i ∨ i = k) :
    SH w0 M K w (bH (bH hp j (.gZ (dC R E ho' us ss))) m (.own R E u s)) := by
  have hf := h.KL j hj
  have hown : ∀ b, xc ho' us b → xc ho us b := fun b ⟨i, u, h1, h2, h3⟩ => ⟨i, u, h1, fun h => h2 ((h' i).2 (.inl h)), h3⟩
  have key : (Chunk.two (.gZ (dC R E ho' us ss)) (.own R E u s)).holds w M (SH.av hp j (Chunk.two (.gZ (dC R E ho' us ss)) (.own R E u s))) := by
    refine ⟨⟨hf.1, fun i v t hv ht hi => ?_, fun i j u v hij hi hj' hu hv => hf.2.2 i j u v hij (fun h => hi ((h' i).2 (.inl h))) (fun h => hj' ((h' j).2 (.inl h))) hu hv⟩, ?_, ?_⟩
    · refine (hf.2.1 i v t hv ht (fun h => hi ((h' i).2 (.inl h)))).go (aI.refl BE w) (fun _ h => h.elim) (fun _ h => h.elim) (fun b hb _ => .inl ?_)
      rcases hb with (hb | hb | hb) | hb
      · exact .inl (.inl hb)
      · exact .inl (.inr (iW hb))
      · rcases hb with hb | hb
        · exact .inr (hown b hb)
        · exact .inr ⟨k, u, hu, hk, hb⟩
      · exact .inr (hown b hb)
    · refine (hf.2.1 k u s hu hs hk).go (aI.refl BE w) (fun _ h => h.elim) (fun _ h => h.elim) (fun b hb _ => .inl ?_)
      rcases hb with hb | hb | hb
      · exact .inl (.inl hb)
      · exact .inl (.inr (iW hb))
      · rcases hb with hb | hb
        · exact .inr (hown b hb)
        · exact .inr ⟨k, u, hu, hk, hb⟩
    · rintro b ⟨i, v, h1, h2, h3⟩ hb
      exact hf.2.2 i k v u (fun e => h2 ((h' i).2 (.inr e))) (fun h => h2 ((h' i).2 (.inl h))) hk h1 hu b h3 hb
  have h1 := h.step j (aI.refl BE w) (fun _ h => h.elim) (fun b hb _ => by
    rw [hj]
    rcases hb with hb | hb
    · exact hown b hb
    · exact ⟨k, u, hu, hk, hb⟩) key
  have h2 := h1.bG j m hjm (bI _ _ _) (by rw [di (Ne.symm hjm)]; exact hm)
  rw [Cz] at h2
  exact h2
theorem SH.Ir (h : SH w0 M K w hp) (j m : Nat) (hj : hp j = .gZ (dC R E ho us ss)) (hm : hp m = .own R E u s) (hjm : j ≠ m) (hu : us[k]? = some u) (hk : ho k) (ho' : Nat → Prop) (h' : ∀ i, ho i ↔ ho' i ∨ i = k) (h'' : ¬ ho' k) :
    SH w0 M K w (bH (bH hp m .no) j (.gZ (dC R E ho' us (ss.set k s)))) := by
  have h1 := h.pair j m hjm
  have hsame : ∀ i, ¬ ho' i → i = k ∨ ¬ ho i := fun i hi => by
    by_cases e : i = k
    · exact .inl e
    · exact .inr (fun h => ((h' i).1 h).elim hi e)
  have hown : ∀ b, xc ho' us b → xc ho us b ∨ ob u b := fun b ⟨i, v, h1, h2, h3⟩ => by
    rcases hsame i h2 with rfl | h4
    · rw [hu] at h1; cases h1; exact .inr h3
    · exact .inl ⟨i, v, h1, h4, h3⟩
  have hown2 : ∀ b, xc ho us b ∨ ob u b → xc ho' us b := fun b hb => by
    rcases hb with ⟨i, v, h1, h2, h3⟩ | hb
    · exact ⟨i, v, h1, fun h => h2 ((h' i).2 (.inl h)), h3⟩
    · exact ⟨k, u, hu, h'', hb⟩
  have ok := h1.ok j
  have hj2 : bH (bH hp m .no) j (.two (hp j) (hp m)) = bH (bH hp m .no) j (.two (.gZ (dC R E ho us ss)) (.own R E u s)) := by rw [hj, hm]
  rw [bI, hj, hm] at ok
  have h2 := h1.step (c := .gZ (dC R E ho' us (ss.set k s))) j (aI.refl BE w) (fun _ h => h.elim) (fun b hb _ => by
    rw [bI, hj, hm]
    exact hown b hb) ?_
  · rw [Cz] at h2
    exact h2
  · rw [hj2]
    have hA : ∀ b, (M b ∨ SH.av (bH (bH hp m .no) j (.two (.gZ (dC R E ho us ss)) (.own R E u s))) j (.gZ (dC R E ho' us (ss.set k s))) b) ∨ xc ho' us b → (M b ∨ eQ (bH (bH hp m .no) j (.two (.gZ (dC R E ho us ss)) (.own R E u s))) b) := by
      have hj' : ∀ b, xc ho' us b → eQ (bH (bH hp m .no) j (.two (.gZ (dC R E ho us ss)) (.own R E u s))) b := fun b hb => ⟨j, by rw [bI]; exact hown b hb⟩
      rintro b ((hb | hb | hb) | hb)
      · exact .inl hb
      · exact .inr (iW hb)
      · exact .inr (hj' b hb)
      · exact .inr (hj' b hb)
    refine ⟨by rw [List.length_set]; exact ok.1.1, fun i v t hv ht hi => ?_, fun i i' v v' hii hi hi' hv hv' b hb hb' => ?_⟩
    · by_cases e : i = k
      · subst e
        rw [hu] at hv
        cases hv
        have hlt : i < ss.length := by
          obtain ⟨s', hs'⟩ := ok.1.at hu
          rcases Nat.lt_or_ge i ss.length with h | h
          · exact h
          · rw [List.getElem?_eq_none h] at hs'; cases hs'
        rw [List.getElem?_set_self hlt] at ht
        cases ht
        refine dW.go ok.2.1 (aI.refl BE w) (fun _ h => h.elim) (fun _ h => h.elim) (fun b hb _ => .inl (hA b hb))
      · rw [List.getElem?_set_ne (fun h => e h.symm)] at ht
        have hi2 : ¬ ho i := (hsame i hi).resolve_left e
        refine (ok.1.2.1 i v t hv ht hi2).go (aI.refl BE w) (fun _ h => h.elim) (fun _ h => h.elim) (fun b hb _ => .inl (.inl (hA b hb)))
    · by_cases e : i = k
      · have e' : i' ≠ k := fun h => hii (e.trans h.symm)
        have hi2 : ¬ ho i' := (hsame i' hi').resolve_left e'
        subst e
        rw [hu] at hv
        cases hv
        exact ok.2.2 b ⟨i', v', hv', hi2, hb'⟩ hb
      · have hi2 : ¬ ho i := (hsame i hi).resolve_left e
        by_cases e' : i' = k
        · subst e'
          rw [hu] at hv'
          cases hv'
          exact ok.2.2 b ⟨i, v, hv, hi2, hb⟩ hb'
        · have hi2' : ¬ ho i' := (hsame i' hi').resolve_left e'
          exact ok.1.2.2 i i' v v' hii hi2 hi2' hv hv' b hb hb'
end
end Go.LX
namespace Go.LX
open Go.RowKit Go.Proofs
section
variable {α β : Type} {N : GY α β} {R : jE β} {E Es T : TypeId} {w0 w w' : World} {M K A : BS} {hp : Nat → Chunk} {v u u' : Value} {us XV Pv : List Value} {L L' : List α} {ss ss' Z7 : List (List β)} {s : List β} {x y : α} {k : Nat} {ho ho' : Nat → Prop}
theorem Fv {γ : Type} {l : List γ} {z : γ} (h : l[k]? = some z) : k < l.length := by
  rcases Nat.lt_or_ge k l.length with h1 | h1
  · exact h1
  · rw [List.getElem?_eq_none h1] at h; cases h
theorem SH.Z8 (h : SH w0 M K w hp) (j m : Nat) (hj : hp j = .gZ (dC R Es hn us (L.map N.sub))) (hm : hp m = .no) (hjm : j ≠ m) (hk : L[k]? = some x) :
    ∃ u, us[k]? = some u ∧ SH w0 M K w (bH (bH hp j (.gZ (dC R Es (hat k) us (L.map N.sub)))) m (.own R Es u (N.sub x))) := by
  have hl := h.iM j hj
  have hkl := Fv hk
  exact ⟨us[k]'(hl ▸ hkl), List.getElem?_eq_getElem _, h.Rp j m hj hm hjm (List.getElem?_eq_getElem _) (by rw [List.getElem?_map, hk]; rfl) (fun h => h) _ (fun i => ⟨.inr, fun h => h.elim (fun h => h.elim) id⟩)⟩
theorem SH.rQ (h : SH w0 M K w hp) (i j m : Nat) (y : α) (hi : hp i = .own N.raw E v (L.zip us)) (hj : hp j = .gZ (dC R Es (hat k) us (L.map N.sub))) (hm : hp m = .own R Es u s) (hij : i ≠ j) (him : i ≠ m) (hjm : j ≠ m) (hk : L[k]? = some x) (hu : us[k]? = some u) (hy : y = N.put x s) :
    SH w0 M K w (bH (bH (bH hp m .no) j (.gZ (dC R Es hn us ((L.set k y).map N.sub)))) i (.own N.raw E v ((L.set k y).zip us))) := by
  have h1 := h.Ir j m hj hm hjm hu rfl hn (fun i => ⟨.inr, fun h => h.elim (fun h => h.elim) id⟩) (fun h => h)
  have h2 := h1.rawRe (N := N) (x := x) (y := y) (k := k) (E := E) (v := v) i (by rw [di hij, di him]; exact hi) hk (fun u => by rw [hy]; exact N.L9 _ _ _)
  have e : (L.map N.sub).set k s = (L.set k y).map N.sub := by rw [List.map_set, hy, N.Ma]
  rw [e] at h2
  exact h2
theorem SH.iY (h : SH w0 M K w hp) (j m : Nat) (hj : hp j = .gZ (dC R Es (hat k) us (L.map N.sub))) (hm : hp m = .own R Es u s) (hjm : j ≠ m) (hk : L[k]? = some x) (hu : us[k]? = some u) (hs : N.sub x = s) :
    SH w0 M K w (bH (bH hp m .no) j (.gZ (dC R Es hn us (L.map N.sub)))) := by
  have h1 := h.Ir j m hj hm hjm hu rfl hn (fun i => ⟨.inr, fun h => h.elim (fun h => h.elim) id⟩) (fun h => h)
  have e : (L.map N.sub).set k s = L.map N.sub := BI (by rw [List.getElem?_map, hk, ← hs]; rfl)
  rw [e] at h1
  exact h1
theorem SH.Z9 (h : SH w0 M K w hp) (m : Nat) (hm : hp m = .own R Es u s) : SH w0 M K w (bH hp m (.gZ (dC R Es hn [u] [s]))) := by
  have ho := h.ok m
  rw [hm] at ho
  have hown : ∀ b, xc hn [u] b → ob u b := by
    rintro b ⟨i, v, h1, _, h3⟩
    cases i with
    | zero => cases h1; exact h3
    | succ i => cases h1
  refine h.step m (aI.refl BE w) (fun _ h => h.elim) (fun b hb _ => by rw [hm]; exact hown b hb) ⟨rfl, fun i v t hv ht _ => ?_, fun i j v t hij _ _ hv ht => ?_⟩
  · cases i with
    | succ i => cases hv
    | zero =>
      cases hv; cases ht
      refine dW.go ho (aI.refl BE w) (fun _ h => h.elim) (fun _ h => h.elim) (fun b hb _ => ?_)
      rcases hb with (hb | hb | hb) | hb
      · exact .inl (.inl hb)
      · exact .inl (.inr (iW hb))
      · exact .inr (hown b hb)
      · exact .inr (hown b hb)
  · cases i with
    | zero => cases j with
      | zero => exact absurd rfl hij
      | succ j => cases ht
    | succ i => cases hv
theorem SH.aaa (h : SH w0 M K w hp) (j : Nat) : SH w0 M K w (bH hp j (.gZ (dC R Es hn [] []))) :=
  h.learn j (aI.refl BE w) (by rintro b ⟨i, u, h1, _⟩; cases h1) (by
    refine ⟨rfl, ?_, ?_⟩
    · intro i v t hv; cases hv
    · intro i j v t _ _ _ hv; cases hv)
theorem SH.yw (h : SH w0 M K w hp) (j m : Nat) (hj : hp j = .gZ (dC R Es hn us ss)) (hm : hp m = .gZ (dC R Es hn Pv Z7)) (hjm : j ≠ m) : SH w0 M K w (bH (bH hp m .no) j (.gZ (dC R Es hn (us ++ Pv) (ss ++ Z7)))) := by
  have h1 := h.pair j m hjm
  have ok := h1.ok j
  rw [hj, hm] at h1
  rw [bI, hj, hm] at ok
  have hown : ∀ b, xc hn (us ++ Pv) b → xc hn us b ∨ xc hn Pv b := by
    rintro b ⟨i, v, h1, _, h3⟩
    rw [List.getElem?_append] at h1
    split at h1
    · exact .inl ⟨i, v, h1, fun h => h, h3⟩
    · exact .inr ⟨_, v, h1, fun h => h, h3⟩
  have hown2 : ∀ b, xc hn us b ∨ xc hn Pv b → xc hn (us ++ Pv) b := by
    rintro b (⟨i, v, h1, _, h3⟩ | ⟨i, v, h1, _, h3⟩)
    · exact ⟨i, v, by rw [List.getElem?_append_left (Fv h1)]; exact h1, fun h => h, h3⟩
    · exact ⟨us.length + i, v, by rw [List.getElem?_append_right (by omega), Nat.add_sub_cancel_left]; exact h1, fun h => h, h3⟩
  have h2 := h1.step (c := .gZ (dC R Es hn (us ++ Pv) (ss ++ Z7))) j (aI.refl BE w) (fun _ h => h.elim) (fun b hb _ => by rw [bI]; exact hown b hb) ?_
  · rw [Cz] at h2
    exact h2
  · have hA : ∀ b, (M b ∨ SH.av (bH (bH hp m .no) j (.two (.gZ (dC R Es hn us ss)) (.gZ (dC R Es hn Pv Z7)))) j (.gZ (dC R Es hn (us ++ Pv) (ss ++ Z7))) b) ∨ xc hn (us ++ Pv) b → (M b ∨ eQ (bH (bH hp m .no) j (.two (.gZ (dC R Es hn us ss)) (.gZ (dC R Es hn Pv Z7)))) b) := by
      have hj' : ∀ b, xc hn (us ++ Pv) b → eQ (bH (bH hp m .no) j (.two (.gZ (dC R Es hn us ss)) (.gZ (dC R Es hn Pv Z7)))) b := fun b hb => ⟨j, by rw [bI]; exact hown b hb⟩
      rintro b ((hb | hb | hb) | hb)
      · exact .inl hb
      · exact .inr (iW hb)
      · exact .inr (hj' b hb)
      · exact .inr (hj' b hb)
    have e1 := ok.1.1
    have e2 := ok.2.1.1
    refine ⟨by simp only [List.length_append]; omega, fun i v t hv ht _ => ?_, fun i i' v v' hii _ _ hv hv' b hb hb' => ?_⟩
    · rw [List.getElem?_append] at hv ht
      by_cases hl : i < us.length
      · rw [if_pos hl] at hv
        rw [if_pos (by omega)] at ht
        exact (ok.1.2.1 i v t hv ht (fun h => h)).go (aI.refl BE w) (fun _ h => h.elim) (fun _ h => h.elim) (fun b hb _ => .inl (.inl (hA b hb)))
      · rw [if_neg hl] at hv
        rw [if_neg (by omega), ← e1] at ht
        exact (ok.2.1.2.1 _ v t hv ht (fun h => h)).go (aI.refl BE w) (fun _ h => h.elim) (fun _ h => h.elim) (fun b hb _ => .inl (.inl (hA b hb)))
    · rw [List.getElem?_append] at hv hv'
      by_cases hl : i < us.length
      · rw [if_pos hl] at hv
        by_cases hl' : i' < us.length
        · rw [if_pos hl'] at hv'
          exact ok.1.2.2 i i' v v' hii (fun h => h) (fun h => h) hv hv' b hb hb'
        · rw [if_neg hl'] at hv'
          exact ok.2.2 b ⟨_, v, hv, fun h => h, hb⟩ ⟨_, v', hv', fun h => h, hb'⟩
      · rw [if_neg hl] at hv
        by_cases hl' : i' < us.length
        · rw [if_pos hl'] at hv'
          exact ok.2.2 b ⟨_, v', hv', fun h => h, hb'⟩ ⟨_, v, hv, fun h => h, hb⟩
        · rw [if_neg hl'] at hv'
          exact ok.2.1.2.2 _ _ v v' (by omega) (fun h => h) (fun h => h) hv hv' b hb hb'
theorem SH.XW (h : SH w0 M K w hp) (j n : Nat) (hj : hp j = .gZ (dC R Es hn us (L.map N.sub))) : SH w0 M K w (bH hp j (.gZ (dC R Es hn (us.take n) ((L.take n).map N.sub)))) := by
  have hf := h.KL j hj
  have hat : ∀ (i : Nat) (u : Value), (us.take n)[i]? = some u → us[i]? = some u ∧ i < n := fun i u hu => by
    rw [List.getElem?_take] at hu
    split at hu
    · exact ⟨hu, by assumption⟩
    · cases hu
  have hown : ∀ b, xc hn (us.take n) b → xc hn us b := fun b ⟨i, u, h1, h2, h3⟩ => ⟨i, u, (hat i u h1).1, h2, h3⟩
  refine h.Ar j hj ?_ (aI.refl _ _) (fun b hb _ => hown b hb)
  have hl := hf.1
  rw [List.length_map] at hl
  refine ⟨by rw [List.length_take, List.length_map, List.length_take]; omega, fun i u s hu hs hi => ?_, fun i j u v hij hi hj' hu hv => hf.2.2 i j u v hij hi hj' (hat i u hu).1 (hat j v hv).1⟩
  rw [List.map_take, List.getElem?_take, if_pos (hat i u hu).2] at hs
  refine (hf.2.1 i u s (hat i u hu).1 hs hi).go (aI.refl BE w) (fun _ h => h.elim) (fun _ h => h.elim) (fun b hb _ => .inl (hb.imp id (hown b)))
theorem Su (n : Nat) : (L.zip us).take n = (L.take n).zip (us.take n) := by
  apply List.ext_getElem?
  intro i
  simp only [List.zip_eq_zipWith, List.getElem?_take, List.getElem?_zipWith]
  split <;> rfl
theorem yx {L2 : List α} (h : us.length = L.length) : (L.zip us) ++ (L2.zip Pv) = (L ++ L2).zip (us ++ Pv) := (List.zip_append h.symm).symm
theorem qZ {P : Program} {ρ : Operand → Value} {d : Option Nat} {ty : TypeId} {pos : String} {af : Array Edge} {g : Option (Nat × Bool)} {xo : Operand} {sz : Nat} {B A : BS} {w1 : World} (hT : SliceOf P T E sz) (hx : ρ xo = v) (hv : gB N.raw w1 B A v (L.zip us)) (hl : us.length = L.length) :
    (execOp ρ ⟨d, .call { callee := .builtin .len, args := #[xo], argTypes := #[T] }, ty, pos, af, g⟩).run P w = .ok (.value (.int .i64 L.length)) w := by
  have h := bS (P := P) (w := w) (d := d) (ty := ty) (pos := pos) (af := af) (g := g) hT hx hv
  rw [dR hl] at h
  exact h
theorem SH.ny {R' : jE α} (h : SH w0 M K w hp) (i j : Nat) (hi : hp i = .own N.raw E v (L.zip us)) (hj : hp j = .gZ (dC R Es hn us (L.map N.sub))) (hij : i ≠ j) (hsz : R'.sz = N.sz) (br : ∀ w A x u, fu R w A u (N.sub x) → R'.rd w A (N.enc x u) x) : SH w0 M K w (bH (bH hp j .no) i (.rd R' v L)) := by
  have hl := h.iM j hj
  have h1 := h.pair i j hij
  have hap := h1.apart i
  have hM := h1.Pn i
  have ok := h1.ok i
  rw [bI] at hap hM
  rw [bI, hi, hj] at ok
  have h2 := h1.step (c := .rd R' v L) i (aI.refl BE w) (fun _ h => h.elim) (fun b hb _ => hb.elim) ?_
  · rw [Cz] at h2
    exact h2
  · have hno : ∀ b, (hp i).own' b ∨ (hp j).own' b → ¬ (M b ∨ SH.av (bH (bH hp j .no) i (.two (hp i) (hp j))) i (.rd R' v L) b) := by
      intro b hb hm
      rcases hm with hm | ⟨q, hq, hm⟩ | hm
      · exact hM b hb hm
      · exact hap q (fun e => hq e.symm) b hb hm
      · exact hm
    have hA : ∀ b, (M b ∨ SH.av (bH (bH hp j .no) i (.two (hp i) (hp j))) i (.rd R' v L) b) → M b ∨ eQ (bH (bH hp j .no) i (.two (.own N.raw E v (L.zip us)) (.gZ (dC R Es hn us (L.map N.sub))))) b := by
      rw [hi, hj]
      rintro b (hb | hb | hb)
      · exact .inl hb
      · exact .inr (iW hb)
      · exact hb.elim
    have hr : fu N.raw w (fun b => M b ∨ SH.av (bH (bH hp j .no) i (.two (hp i) (hp j))) i (.rd R' v L) b) v (L.zip us) :=
      dW.rd ok.1 (fun b hb => hno b (.inl (by rw [hi]; exact hb))) (fun b hb _ => .inl (hA b hb))
    obtain ⟨a, cap, e1, e2, e3, e4, e5⟩ := hr
    rw [dR hl] at e1 e2
    refine ⟨a, cap, e1, e2, e3, e4, fun q hq => ?_⟩
    obtain ⟨b, o, cells, F, fz, q1, q2, q3, q4⟩ := e5 q (by rw [dR hl]; exact hq)
    refine ⟨b, o, cells, F, fz, q1, q2, q3, ?_⟩
    rw [hsz]
    have e6 : (L.zip us)[q]'(by rw [dR hl]; exact hq) = (L[q], us[q]'(by omega)) := by simp
    rw [e6] at q4
    obtain ⟨q5, _⟩ := q4
    have q6 : ((cells.toList.drop (o + q * N.sz)).take N.sz) = N.enc L[q] (us[q]'(by omega)) := q5
    rw [q6]
    refine br _ _ _ _ (dW.rd (ok.2.1.2.1 q _ _ (List.getElem?_eq_getElem (by omega)) (by rw [List.getElem?_map, List.getElem?_eq_getElem hq]; rfl) (fun h => h)) (fun b hb => hno b (.inr (by rw [hj]; exact ⟨q, _, List.getElem?_eq_getElem (by omega), fun h => h, hb⟩))) (fun b hb _ => .inl (.inl (hA b hb))))
theorem SH.moveC (h : SH w0 M K w hp) (j i : Nat) {c : Chunk} (hj : hp j = c) (hi : hp i = .no) (hij : j ≠ i) : SH w0 M K w (bH (bH hp j .no) i c) := by
  subst hj
  have key : ∀ x b, (bH (bH hp j .no) i (hp j) x).own' b → ∃ y, (hp y).own' b ∧ (x = i → y = j) ∧ (x ≠ i → y = x ∧ x ≠ j) := by
    intro x b hb
    by_cases e : x = i
    · subst e; rw [bI] at hb; exact ⟨j, hb, fun _ => rfl, fun h => absurd rfl h⟩
    · rw [di e] at hb
      by_cases e2 : x = j
      · subst e2; rw [bI] at hb; exact hb.elim
      · rw [di e2] at hb; exact ⟨x, hb, fun h => absurd h e, fun _ => ⟨rfl, e2⟩⟩
  have hall : ∀ b, eQ (bH (bH hp j .no) i (hp j)) b → eQ hp b := fun b ⟨x, hx⟩ => let ⟨y, hy, _⟩ := key x b hx; ⟨y, hy⟩
  refine ⟨h.keep, h.XG, fun x b hb => let ⟨y, hy, _⟩ := key x b hb; h.Pn y b hy, fun x => ?_, fun x y hxy b hx hy => ?_, fun x b hb => let ⟨y, hy, _⟩ := key x b hb; h.old y b hy⟩
  · by_cases e : x = i
    · subst e; rw [bI]
      exact Chunk.sub (h.ok j) (fun b hb _ => hall b hb)
    · rw [di e]
      by_cases e2 : x = j
      · subst e2; rw [bI]; trivial
      · rw [di e2]; exact Chunk.sub (h.ok x) (fun b hb _ => hall b hb)
  · obtain ⟨x', h1, h2, h3⟩ := key x b hx
    obtain ⟨y', k1, k2, k3⟩ := key y b hy
    have : x' ≠ y' := by
      by_cases e : x = i
      · have e2 : y ≠ i := fun h => hxy (e.trans h.symm)
        rw [h2 e, (k3 e2).1]; exact fun h => (k3 e2).2 h.symm
      · by_cases e2 : y = i
        · rw [k2 e2, (h3 e).1]; exact (h3 e).2
        · rw [(h3 e).1, (k3 e2).1]; exact hxy
    exact h.apart x' y' this b h1 k1
def ed (β : Type) : GY (List β) β where
  sz := 1
  enc _ u := [u]
  sub x := x
  put _ s := s
  len _ _ := rfl
  one := by intro x u h c hc; simp at hc; subst hc; exact h
  pos := by decide
  L9 _ _ _ := rfl
  Ma _ _ := rfl
theorem p9 {R : jE β} : ∀ w A (x : List β) u, fu R w A u ((ed β).sub x) → (mP R).rd w A ((ed β).enc x u) x := fun _ _ _ u h => ⟨u, rfl, h⟩
end
end Go.LX
namespace Go.LX
open Go.RowKit Go.Proofs
section
variable {P : Program} {w : World} {ρ : Operand → Value} {d : Option Nat} {ty : TypeId} {pos : String} {af : Array Edge} {g : Option (Nat × Bool)} {T : TypeId} {x y : Operand}
theorem SH.yz {α β : Type} {N : GY α β} {R : jE β} {E : TypeId} {w0 : World} {M K : BS} {hp : Nat → Chunk} {u : Value} {s : List β} (h : SH w0 M K w hp) (m : Nat) (x : α) (hm : hp m = .own R E u s) (hs : N.sub x = s) : SH w0 M K w (bH hp m (.gZ (dC R E hn [u] (List.map N.sub [x])))) := by
  subst hs
  exact h.Z9 m hm
theorem Zf {α : Type} {us : List Value} {L : List α} {k : Nat} {z : α} (h : us.length = L.length) (hk : L[k]? = some z) : ∃ u, us[k]? = some u := by
  have := Fv hk
  exact ⟨us[k]'(h ▸ this), List.getElem?_eq_getElem _⟩
end
end Go.LX
namespace Go.LX
open Go.RowKit Go.Proofs
section
variable {α : Type} {R : jE α} {E : TypeId} {w0 w w' : World} {M K : BS} {hp : Nat → Chunk} {C C' : Chunk} {v : Value} {l : List α}
theorem Bl : ∀ b, eQ (bH hno 1 C) b → C.own' b := by
  rintro b ⟨j, hj⟩
  by_cases e : j = 1
  · subst e; rw [bI] at hj; exact hj
  · rw [di e] at hj; exact hj.elim
theorem tO {i : Nat} (hn : ∀ b, eQ hp b → C.own' b) : ∀ b, eQ (bH hp i (.rd R v l)) b → C.own' b := by
  rintro b ⟨j, hj⟩
  by_cases e : j = i
  · subst e; rw [bI] at hj; exact hj.elim
  · rw [di e] at hj; exact hn b ⟨j, hj⟩
theorem SH.Du (h : SH w M K w hp) (i : Nat) (ho : fu R w (fun b => M b ∨ C.own' b) v l) (hn : ∀ b, eQ hp b → C.own' b) : SH w M K w (bH hp i (.rd R v l)) :=
  h.bX i (ho.sub (fun b hb _ => hb.imp id (hn b)) (fun b hb _ => hb.imp id (hn b)))
theorem SH.xH (h : SH w0 M K w hp) (i : Nat) (hi : hp i = C) (hf : C.Ij) : C.holds w (fun b => M b ∨ rest hp i b) C.own' ∧ (∀ b, C.own' b → ¬ (M b ∨ rest hp i b)) ∧ (∀ b, (M b ∨ rest hp i b) → b < w.heap.size) := by
  subst hi; exact h.lendC i hf
theorem SH.Rq (h : SH w0 M K w hp) (i j : Nat) (hj : hp j = .rd R v l) (hi : hp i = C) : fu R w (fun b => (M b ∨ rest hp i b) ∨ C.own' b) v l := by
  have key : ∀ b, (M b ∨ rest hp i b) ∨ C.own' b → SH.A M hp b := by
    rintro b ((hb | hb) | hb)
    · exact .inl hb
    · exact .inr (iW hb)
    · exact .inr ⟨i, by rw [hi]; exact hb⟩
  exact (h.fo j hj).sub (fun b hb _ => key b hb) (fun b hb _ => key b hb)
theorem SH.back (h : SH w0 M K w hp) (i : Nat) (hi : hp i = C) (hf : C'.Ij) (hC : C'.holds w' (fun b => M b ∨ rest hp i b) C'.own') (hk : aI C.own' w w') (hn : ∀ b, C'.own' b → b < w.heap.size → C.own' b) : SH w0 M K w' (bH hp i C') := by
  subst hi; exact h.ZX i hf hC hk hn
theorem Iu {i : Nat} (h : fu R w (fun b => (M b ∨ rest hp i b) ∨ C.own' b) v l) : fu R w (SH.A M (bH hp i C)) v l := by
  have key : ∀ b, SH.A M (bH hp i C) b → (M b ∨ rest hp i b) ∨ C.own' b := by
    rintro b (hb | ⟨j, hj⟩)
    · exact .inl (.inl hb)
    · by_cases e : j = i
      · subst e; rw [bI] at hj; exact .inr hj
      · rw [di e] at hj; exact .inl (.inr ⟨j, e, hj⟩)
  exact h.sub (fun b hb _ => key b hb) (fun b hb _ => key b hb)
theorem SH.Pw (h : SH w0 M K w hp) (i j : Nat) (hj : hp j = .rd R v l) (hi : hp i = C) : fu R w (fun b => M b ∨ C.own' b) v l := by
  have key : ∀ b, M b ∨ C.own' b → SH.A M hp b := by
    rintro b (hb | hb)
    · exact .inl hb
    · exact .inr ⟨i, by rw [hi]; exact hb⟩
  exact (h.fo j hj).sub (fun b hb _ => key b hb) (fun b hb _ => key b hb)
theorem SH.q8 (h : SH w0 M K w hp) (i : Nat) (hi : hp i = C) (hf : C.Ij) : C.holds w M C.own' ∧ aI K w0 w ∧ (∀ b, C.own' b → b < w0.heap.size → K b) := h.outC i hi hf
end
section
variable {P : Program} {ops : Array Oper} {Q : Exit → Act → World → Prop} {n : Nat} {env : Nat → Value} {w : World}
theorem At.hold {w w' : World} {L : BS} {b o : Nat} {cs : List Value} (h : At w b o cs) (hk : aI L w w') (hn : ¬ L b) : At w' b o cs := by
  obtain ⟨cells, E, fz, h1, h2⟩ := h
  exact ⟨cells, E, fz, hk.blk h1 hn, h2⟩
theorem U4 {fn : Func} {R : Ending → World → Prop} {t u a c : Tmp} {v1 v2 v3 v4 : Value} (hr : fn.results = #[.tmp t, .tmp u, .tmp a, .tmp c]) (h1 : ev n env (.tmp t) = v1) (h2 : ev n env (.tmp u) = v2) (h3 : ev n env (.tmp a) = v3) (h4 : ev n env (.tmp c) = v4) (h : R (.returned (.tuple #[v1, v2, v3, v4])) w) : bodyPost P fn R .ret (act n env) w := by
  refine ⟨rfl, _, ?_, h⟩
  have e1 := congrFun (gD n env) (.tmp t)
  have e2 := congrFun (gD n env) (.tmp u)
  have e3 := congrFun (gD n env) (.tmp a)
  have e4 := congrFun (gD n env) (.tmp c)
  rw [h1] at e1
  rw [h2] at e2
  rw [h3] at e3
  rw [h4] at e4
  simp only [Act.eval] at e1 e2 e3 e4
  rw [Array.getD_eq_getD_getElem?] at e1 e2 e3 e4
  unfold results
  rw [hr]
  simp [e1, e2, e3, e4]
end
end Go.LX
namespace Go.LX
structure Ins where
  op : Int
  a : Int
  b : Int
  c : Int
  args : List Int
deriving DecidableEq
def jI : jE Ins where
  sz := 5
  rd w A cs x := ∃ GG, cs = [.int .i64 x.op, .int .i64 x.a, .int .i64 x.b, .int .i64 x.c, GG] ∧ fu dU w A GG x.args
  len := by rintro w A cs x ⟨GG, rfl, h0⟩; rfl
  one := by rintro w A cs x ⟨GG, rfl, h0⟩ u hu; simp only [List.mem_cons, List.not_mem_nil, or_false] at hu; rcases hu with rfl | rfl | rfl | rfl | rfl <;> first | rfl | exact h0.one
  pos := by decide
  go := by rintro w A cs x w2 A2 K ⟨GG, rfl, h0⟩ hk hK hA; exact ⟨_, rfl, h0.go hk hK hA⟩
theorem CB {w : World} {A : BS} {cs : List Value} {x : Ins} (h : jI.rd w A cs x) : ∃ GG, cs = [.int .i64 x.op, .int .i64 x.a, .int .i64 x.b, .int .i64 x.c, GG] ∧ fu dU w A GG x.args := h
structure bN where
  params : Int
  regs : Int
  code : List Ins
deriving DecidableEq
def jF : jE bN where
  sz := 3
  rd w A cs x := ∃ GH, cs = [.int .i64 x.params, .int .i64 x.regs, GH] ∧ fu jI w A GH x.code
  len := by rintro w A cs x ⟨GH, rfl, h0⟩; rfl
  one := by rintro w A cs x ⟨GH, rfl, h0⟩ u hu; simp only [List.mem_cons, List.not_mem_nil, or_false] at hu; rcases hu with rfl | rfl | rfl <;> first | rfl | exact h0.one
  pos := by decide
  go := by rintro w A cs x w2 A2 K ⟨GH, rfl, h0⟩ hk hK hA; exact ⟨_, rfl, h0.go hk hK hA⟩
theorem om {w : World} {A : BS} {cs : List Value} {x : bN} (h : jF.rd w A cs x) : ∃ GH, cs = [.int .i64 x.params, .int .i64 x.regs, GH] ∧ fu jI w A GH x.code := h
structure Frame where
  proc : Int
  at_ : Int
  regs : List Val
  mH : Int
deriving DecidableEq
def dB : jE Frame where
  sz := 4
  rd w A cs x := ∃ GI, cs = [.int .i64 x.proc, .int .i64 x.at_, GI, .int .i64 x.mH] ∧ fu bM w A GI x.regs
  len := by rintro w A cs x ⟨GI, rfl, h0⟩; rfl
  one := by rintro w A cs x ⟨GI, rfl, h0⟩ u hu; simp only [List.mem_cons, List.not_mem_nil, or_false] at hu; rcases hu with rfl | rfl | rfl | rfl <;> first | rfl | exact h0.one
  pos := by decide
  go := by rintro w A cs x w2 A2 K ⟨GI, rfl, h0⟩ hk hK hA; exact ⟨_, rfl, h0.go hk hK hA⟩
theorem vL {w : World} {A : BS} {cs : List Value} {x : Frame} (h : dB.rd w A cs x) : ∃ GI, cs = [.int .i64 x.proc, .int .i64 x.at_, GI, .int .i64 x.mH] ∧ fu bM w A GI x.regs := h
structure State where
  frames : List Frame
  cells : List (List Val)
  status : Int
  aK : Int
deriving DecidableEq
def U5 : jE State where
  sz := 4
  rd w A cs x := ∃ yA, ∃ BJ, cs = [yA, BJ, .int .i64 x.status, .int .i64 x.aK] ∧ fu dB w A yA x.frames ∧ fu (mP bM) w A BJ x.cells
  len := by rintro w A cs x ⟨yA, BJ, rfl, h0, h1⟩; rfl
  one := by rintro w A cs x ⟨yA, BJ, rfl, h0, h1⟩ u hu; simp only [List.mem_cons, List.not_mem_nil, or_false] at hu; rcases hu with rfl | rfl | rfl | rfl <;> first | rfl | exact h0.one | exact h1.one
  pos := by decide
  go := by rintro w A cs x w2 A2 K ⟨yA, BJ, rfl, h0, h1⟩ hk hK hA; exact ⟨_, _, rfl, h0.go hk hK hA, h1.go hk hK hA⟩
theorem Nw {w : World} {A : BS} {cs : List Value} {x : State} (h : U5.rd w A cs x) : ∃ yA, ∃ BJ, cs = [yA, BJ, .int .i64 x.status, .int .i64 x.aK] ∧ fu dB w A yA x.frames ∧ fu (mP bM) w A BJ x.cells := h
def bR : GY Frame Val where
  sz := 4
  enc x u := [.int .i64 x.proc, .int .i64 x.at_, u, .int .i64 x.mH]
  sub x := x.regs
  put x s := { x with regs := s }
  len _ _ := rfl
  one := by intro x u h c hc; simp only [List.mem_cons, List.not_mem_nil, or_false] at hc; rcases hc with rfl | rfl | rfl | rfl <;> first | rfl | exact h
  pos := by decide
  L9 _ _ _ := rfl
  Ma _ _ := rfl
theorem j4 : ∀ w A (x : Frame) u, fu bM w A u (bR.sub x) → dB.rd w A (bR.enc x u) x := fun _ _ _ u h => ⟨u, rfl, h⟩
end Go.LX
namespace Go.LX
open Go.RowKit Go.Proofs
section
variable {P : Program} {ops : Array Oper} {Q : Exit → Act → World → Prop} {n : Nat} {env : Nat → Value} {w w' w0 : World} {M K : BS} {hp : Nat → Chunk} {rest : List Oper}
  {d : Option Nat} {op : Op} {ty : TypeId} {pos : String} {af : Array Edge} {v : Value} {g : Option (Nat × Bool)} {T : TypeId} {ρ : Operand → Value} {x y : Operand}
theorem Zg {fn : Func} {R : Ending → World → Prop} {a : Tmp} {T : TypeId} {zs vs : List Value} {b : Nat} (hr : fn.results = #[.cell a T]) (ha : ev n env (.tmp a) = .pointer (some ⟨b, 0, none⟩))
    (h0 : SH w0 M K w hp) (i : Nat) (hi : hp i = .blk b vs) (hT : wJ P T zs) (hl : vs.length = zs.length) (h : R (.returned (.agg vs.toArray)) w) : bodyPost P fn R .ret (act n env) w := by
  refine ⟨rfl, _, ?_, h⟩
  have e3 := congrFun (gD n env) (.tmp a)
  rw [ha] at e3
  simp only [Act.eval] at e3
  rw [Array.getD_eq_getD_getElem?] at e3
  have hl2 := Ao (P := P) h0 hi hT hl rfl
  unfold results
  rw [hr]
  simp [e3, asAddr, hl2]
end
end Go.LX
