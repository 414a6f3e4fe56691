/-
  Our own library: walks told by slots and by what memory reads as; nothing here is of one program.
-/
import Derived.WalkKit
import Derived.MapKept
import Derived.Deep.Slices
import Derived.Deep.Quiet
import Derived.Laws.StructEq
import Derived.ChangeKeysEq
import Derived.Lib.AppendZeros
set_option linter.unusedSimpArgs false
set_option linter.unusedVariables false
namespace Go.WX
open Go.RowKit

def act (n : Nat) (env : Nat → Value) : Act := { tmps := Array.ofFn (n := n) fun i => env i.val, defers := [] }
def upd (env : Nat → Value) (d : Nat) (v : Value) : Nat → Value := fun i => bif Nat.beq i d then v else env i
def ev (n : Nat) (env : Nat → Value) : Operand → Value
  | .tmp t => bif Nat.blt t n then env t else undef
  | .const v => v
  | .global g => .pointer (some ⟨g, 0, none⟩)
  | .func f => .func (.func f) #[] #[]
def updo (env : Nat → Value) : Option Nat → Value → (Nat → Value)
  | some d, v => upd env d v
  | none, _ => env

theorem act_eval (n : Nat) (env : Nat → Value) : (act n env).eval = ev n env := by
  funext x
  cases x with
  | tmp t =>
    by_cases h : t < n
    · have hb : Nat.blt t n = true := by rw [Nat.blt_eq]; exact h
      simp [Act.eval, act, ev, h, hb]
    · have hb : Nat.blt t n = false := by rw [Bool.eq_false_iff, ne_eq, Nat.blt_eq]; exact h
      simp [Act.eval, act, ev, h, hb]
  | _ => rfl
theorem act_put (n : Nat) (env : Nat → Value) (d : Option Nat) (v : Value) : (act n env).put d v = act n (updo env d v) := by
  cases d with
  | none => rfl
  | some d =>
    simp only [Act.put, act, updo, Act.mk.injEq, and_true]
    apply Array.ext
    · simp
    · intro i h1 h2
      simp at h1
      have h3 : i < (Array.ofFn (n := n) fun i => env i.val).size := by simp; exact h1
      rw [Array.getElem_setIfInBounds h3]
      by_cases hd : d = i
      · subst hd; simp [upd, Nat.beq_refl]
      · have hb : Nat.beq i d = false := by rw [Bool.eq_false_iff]; intro h; exact hd (Nat.eq_of_beq_eq_true h).symm
        simp [hd, upd, hb]
def env0 (args : List Value) : Nat → Value := fun i => args.getD i undef
theorem act_init (n : Nat) (args : List Value) (h : args.length ≤ n) : ({ tmps := args.toArray ++ Array.replicate (n - args.toArray.size) undef, defers := [] } : Act) = act n (env0 args) := by
  simp only [act, Act.mk.injEq, and_true]
  apply Array.ext
  · simp; omega
  · intro i h1 h2
    simp [Array.getElem_append, env0, List.getD]
    by_cases hi : i < args.length
    · simp [hi]
    · simp [hi]
end Go.WX

namespace Go.WX
open Go.RowKit
structure WL (P : Program) (ops : Array Oper) (Q : Exit → Act → World → Prop) (l : List Oper) (n : Nat) (env : Nat → Value) (w : World) : Prop where
  out : wpList P ops Q l (act n env) w
structure WC (P : Program) (c : Code) (Q : Exit → Act → World → Prop) (n : Nat) (env : Nat → Value) (w : World) : Prop where
  out : c.wp P Q (act n env) w
section
variable {P : Program} {ops : Array Oper} {Q : Exit → Act → World → Prop} {n : Nat} {env : Nat → Value} {w w' : World} {rest : List Oper}
  {d : Option Nat} {op : Op} {ty : TypeId} {pos : String} {af : Array Edge} {v : Value} {g : Option (Nat × Bool)}

theorem wl_ok (hr : (execOp (ev n env) ⟨d, op, ty, pos, af, none⟩).run P w = .ok (.value v) w') (h : WL P ops Q rest n (updo env d v) w') :
    WL P ops Q (⟨d, op, ty, pos, af, none⟩ :: rest) n env w := by
  refine ⟨wpList_plain rfl fun K hK => ?_⟩
  unfold Oper.wp
  rw [act_eval, hr]
  show K _ _
  rw [act_put]
  exact hK _ _ h.out
theorem wl_skip (hr : (execOp (ev n env) ⟨d, op, ty, pos, af, none⟩).run P w = .ok .skip w') (h : WL P ops Q rest n (updo env d undef) w') :
    WL P ops Q (⟨d, op, ty, pos, af, none⟩ :: rest) n env w := by
  refine ⟨wpList_plain rfl fun K hK => ?_⟩
  unfold Oper.wp
  rw [act_eval, hr]
  show K _ _
  rw [act_put]
  exact hK _ _ h.out
theorem wl_enter {f : FuncId} {args : Array Value} {R : Ending → World → Prop} (hr : (execOp (ev n env) ⟨d, op, ty, pos, af, none⟩).run P w = .ok (.enter f args) w) (hc : Calls P f args w R)
    (h : ∀ e w', R e w' → ∃ v, e = .returned v ∧ WL P ops Q rest n (updo env d v) w') :
    WL P ops Q (⟨d, op, ty, pos, af, none⟩ :: rest) n env w := by
  refine ⟨wpList_plain rfl fun K hK => ?_⟩
  unfold Oper.wp
  rw [act_eval, hr]
  show Calls P f args w _
  refine hc.mono fun e w' he => ?_
  obtain ⟨v, rfl, hv⟩ := h e w' he
  show K _ _
  rw [act_put]
  exact hK _ _ hv.out
theorem yielded_of {j dj : Nat} {b : Bool} (hd : (ops[j]?).bind (·.dst) = some dj) (hv : ev n env (.tmp dj) = .bool b) : yielded ops (act n env).tmps j = some b := by
  unfold yielded
  have h1 : (act n env).eval (.tmp dj) = .bool b := by rw [act_eval]; exact hv
  simp only [hd, Option.bind_some]
  simp only [Act.eval] at h1
  cases h2 : (act n env).tmps[dj]? with
  | none => simp [Array.getD_eq_getD_getElem?, h2, undef] at h1
  | some x => simp [Array.getD_eq_getD_getElem?, h2] at h1; subst h1; rfl
theorem wl_on {j dj : Nat} {b : Bool} (hd : (ops[j]?).bind (·.dst) = some dj) (hv : ev n env (.tmp dj) = .bool b)
    (h : WL P ops Q (⟨d, op, ty, pos, af, none⟩ :: rest) n env w) : WL P ops Q (⟨d, op, ty, pos, af, some (j, b)⟩ :: rest) n env w := by
  have hy := yielded_of (ops := ops) hd hv
  have hw : Region.wanted ⟨d, op, ty, pos, af, some (j, b)⟩ (yielded ops (act n env).tmps) = true := by simp [Region.wanted, hy]
  have hw0 : Region.wanted ⟨d, op, ty, pos, af, none⟩ (yielded ops (act n env).tmps) = true := rfl
  obtain ⟨h⟩ := h
  refine ⟨?_⟩
  unfold wpList at h ⊢
  rw [if_pos hw0] at h
  rw [if_pos hw]
  exact h
theorem wl_off {j dj : Nat} {b b' : Bool} (hd : (ops[j]?).bind (·.dst) = some dj) (hv : ev n env (.tmp dj) = .bool b') (hb : (b' == b) = false)
    (h : WL P ops Q rest n (updo env d undef) w) : WL P ops Q (⟨d, op, ty, pos, af, some (j, b)⟩ :: rest) n env w := by
  have hy := yielded_of (ops := ops) hd hv
  have hw : Region.wanted ⟨d, op, ty, pos, af, some (j, b)⟩ (yielded ops (act n env).tmps) = false := by simpa [Region.wanted, hy] using hb
  refine ⟨?_⟩
  unfold wpList
  rw [if_neg (by rw [hw]; decide), act_put]
  exact h.out
theorem wl_nil (h : Q .normal (act n env) w) : WL P ops Q [] n env w := ⟨h⟩
end
section
variable {P : Program} {Q : Exit → Act → World → Prop} {n : Nat} {env : Nat → Value} {w : World} {x y : Code}
theorem wc_region {id : Nat} {l : List Oper} (h : WL P l.toArray Q l n env w) : WC P (Code.region id l.toArray false) Q n env w := ⟨wp_region_lit h.out⟩
theorem wc_seq (h : WC P x (Exit.then (y.wp P Q) Q) n env w) : WC P (Code.seq x y) Q n env w := ⟨wp_seq h.out⟩
theorem wc_block {id : Nat} (h : WC P x (Exit.inBlock id Q) n env w) : WC P (Code.block id x) Q n env w := ⟨wp_block h.out⟩
theorem wc_skip (h : Q .normal (act n env) w) : WC P .skip Q n env w := ⟨wp_skip h⟩
theorem wc_ret (h : Q .ret (act n env) w) : WC P .ret Q n env w := ⟨wp_ret h⟩
theorem wc_exit {id : Nat} (h : Q (.exit id) (act n env) w) : WC P (.exit id) Q n env w := ⟨wp_exit h⟩
theorem wc_if {c : Operand} {t : Bool} (hc : ev n env c = .bool t) (h1 : t = true → WC P x Q n env w) (h2 : t = false → WC P y Q n env w) :
    WC P (Code.cond c x y) Q n env w := ⟨wp_cond_split (by rw [act_eval]; exact hc) (fun h => (h1 h).out) (fun h => (h2 h).out)⟩
theorem wc_ifd {c : Operand} {p : Prop} [Decidable p] (hc : ev n env c = .bool (decide p)) (h1 : p → WC P x Q n env w) (h2 : ¬ p → WC P y Q n env w) :
    WC P (Code.cond c x y) Q n env w := wc_if hc (fun h => h1 (of_decide_eq_true h)) (fun h => h2 (of_decide_eq_false h))
theorem wc_ift {c : Operand} (hc : ev n env c = .bool true) (h1 : WC P x Q n env w) : WC P (Code.cond c x y) Q n env w := ⟨wp_cond_true (by rw [act_eval]; exact hc) h1.out⟩
theorem wc_iff {c : Operand} (hc : ev n env c = .bool false) (h1 : WC P y Q n env w) : WC P (Code.cond c x y) Q n env w := ⟨wp_cond_false (by rw [act_eval]; exact hc) h1.out⟩
theorem then_normal {Q' : Exit → Act → World → Prop} (h : WC P y Q n env w) : Exit.then (y.wp P Q) Q' .normal (act n env) w := h.out

def hav (mod : Nat → Bool) (junk entry : Nat → Value) : Nat → Value := fun i => bif mod i then junk i else entry i
def upds (e : Nat → Value) : List (Nat × Value) → Nat → Value
  | [] => e
  | (i, v) :: r => upd (upds e r) i v
def Holds (e : Nat → Value) : List (Nat × Value) → Prop
  | [] => True
  | (i, v) :: r => e i = v ∧ Holds e r
def Agr (mod : Nat → Bool) (e entry : Nat → Value) : Prop := ∀ i, mod i = false → e i = entry i
theorem Agr.refl (mod : Nat → Bool) (e : Nat → Value) : Agr mod e e := fun _ _ => rfl
theorem Agr.hav (mod : Nat → Bool) (j e : Nat → Value) : Agr mod (hav mod j e) e := fun i h => by simp [WX.hav, h]
theorem Agr.upd {mod : Nat → Bool} {e entry : Nat → Value} {d : Nat} {v : Value} (hd : mod d = true) (h : Agr mod e entry) : Agr mod (upd e d v) entry := fun i hi => by
  have : i ≠ d := fun e => by rw [e, hd] at hi; exact Bool.noConfusion hi
  have hb : Nat.beq i d = false := by rw [Bool.eq_false_iff]; intro h; exact this (Nat.eq_of_beq_eq_true h)
  simp [WX.upd, hb, h i hi]
theorem upd_self (e : Nat → Value) {i : Nat} {v : Value} (h : e i = v) : upd e i v = e := by
  funext k
  by_cases hk : Nat.beq k i = true
  · have := Nat.eq_of_beq_eq_true hk; subst this; simp [upd, h]
  · simp [upd, hk]
theorem hav_self {mod : Nat → Bool} {e entry : Nat → Value} (h : Agr mod e entry) : hav mod e entry = e := by
  funext i
  cases hm : mod i with
  | true => simp [hav, hm]
  | false => simp [hav, hm, h i hm]
theorem upds_self {e : Nat → Value} : ∀ (l : List (Nat × Value)), Holds e l → upds e l = e
  | [], _ => rfl
  | (i, v) :: r, h => by
    show upd (upds e r) i v = e
    rw [upds_self r h.2]
    exact upd_self e h.1
/-- The loop: σ: what the rounds' heads are told by; live: the slots that hold something of it. -/
theorem wc_loop {σ : Type} {c : Code} (mod : Nat → Bool) (live : σ → List (Nat × Value)) (J : σ → World → Prop) (μ : σ → Nat) (s0 : σ)
    (hl : Holds env (live s0)) (hJ : J s0 w)
    (round : ∀ s wr junk, J s wr → WC P c (Exit.then (fun a' w' => ∃ s' e', a' = act n e' ∧ Agr mod e' env ∧ Holds e' (live s') ∧ J s' w' ∧ μ s' < μ s) Q) n (upds (hav mod junk env) (live s)) wr) :
    WC P (Code.loop c) Q n env w := by
  refine ⟨?_⟩
  intro b k cs
  have key : ∀ m s e w, μ s = m → Agr mod e env → Holds e (live s) → J s w →
      ∃ ex a' w', Q ex a' w' ∧ Arrives P (lone (b.at (act n e) (.code c :: .inLoop c :: k)) cs w) b k cs ex a' w' := by
    intro m
    induction m using Nat.strongRecOn with
    | _ m ih =>
      intro s e w hm hA hH hj
      have hr := (round s w e hj).out
      have hee : upds (hav mod e env) (live s) = e := by rw [hav_self hA]; exact upds_self _ hH
      rw [hee] at hr
      obtain ⟨ex, a₁, w₁, hq, harr⟩ := hr b (.inLoop c :: k) cs
      cases ex with
      | normal =>
        obtain ⟨s', e', rfl, hA', hH', hJ', hlt⟩ := hq
        obtain ⟨e₂, a₂, w₂, hq₂, harr₂⟩ := ih (μ s') (hm ▸ hlt) s' e' w₁ rfl hA' hH' hJ'
        exact ⟨e₂, a₂, w₂, hq₂, .of_steps (Steps.trans harr (.one step_inLoop)) harr₂⟩
      | exit id => exact ⟨_, a₁, w₁, hq, .pass (x := .inLoop c) rfl (fun _ _ => .inl (by simp)) harr⟩
      | goto l => exact ⟨_, a₁, w₁, hq, .pass (x := .inLoop c) rfl (fun _ _ => .inl (by simp)) harr⟩
      | ret => exact ⟨_, a₁, w₁, hq, .pass (x := .inLoop c) rfl (fun _ _ => .inl (by simp)) harr⟩
      | panic ch => exact ⟨_, a₁, w₁, hq, .pass (x := .inLoop c) rfl (fun _ _ => .inl (by simp)) harr⟩
      | outgrown => exact ⟨_, a₁, w₁, hq, .pass (x := .inLoop c) rfl (fun _ _ => .inl (by simp)) harr⟩
  obtain ⟨ex, a', w', hq, harr⟩ := key _ s0 env w rfl (Agr.refl _ _) hl hJ
  exact ⟨ex, a', w', hq, .of_steps (.one step_loop) harr⟩
end
end Go.WX

namespace Go.WX
open Go.RowKit
/-- A type of one cell; z: its zero. -/
structure One (P : Program) (T : TypeId) (z : Value) : Prop where
  desc : ∃ d, P.underlying T = some d ∧ (match d with | .struct _ | .array _ _ => False | _ => True)
  info : (P.info? T).map (fun i => (i.zero, i.size)) = some (some z, 1)
  cell : z.cells = #[z]
/-- A type of several cells, zs: its zero. -/
structure Many (P : Program) (T : TypeId) (zs : List Value) : Prop where
  desc : ∃ d, P.underlying T = some d ∧ (match d with | .struct _ | .array _ _ => True | _ => False)
  info : (P.info? T).map (fun i => (i.zero, i.size)) = some (some (.agg zs.toArray), zs.length)
structure SliceOf (P : Program) (T E : TypeId) (sz : Nat) : Prop where
  desc : P.underlying T = some (.slice E)
  info : (P.info? E).map (·.size) = some sz
structure FieldAt (P : Program) (T : TypeId) (k off : Nat) : Prop where
  desc : ∃ fs f s, P.underlying T = some (.struct fs) ∧ fs[k]? = some f ∧ f.offset = off ∧ (P.info? f.type).map (·.size) = some (s + 1)
section
variable {P : Program} {w : World} {ρ : Operand → Value} {d : Option Nat} {ty : TypeId} {pos : String} {af : Array Edge} {g : Option (Nat × Bool)}
theorem r_move {x : Operand} {v : Value} (hx : ρ x = v) : (execOp ρ ⟨d, .move x, ty, pos, af, g⟩).run P w = .ok (.value v) w := by subst hx; rfl
theorem r_assign {x : Operand} {v : Value} (hx : ρ x = v) : (execOp ρ ⟨d, .assign x, ty, pos, af, g⟩).run P w = .ok (.value v) w := by subst hx; rfl
theorem r_pick {c x y : Operand} {b : Bool} {v : Value} (hc : ρ c = .bool b) (hv : (if b then ρ x else ρ y) = v) : (execOp ρ ⟨d, .pick c x y, ty, pos, af, g⟩).run P w = .ok (.value v) w := by
  subst hv; simp [execOp, hc, asBool]
theorem r_not {x : Operand} {T : TypeId} {b : Bool} (hx : ρ x = .bool b) : (execOp ρ ⟨d, .unOp .not T x, ty, pos, af, g⟩).run P w = .ok (.value (.bool !b)) w := by
  simp [execOp, hx, Op.unary]
theorem wrap_in {x : Int} (h1 : -9223372036854775808 ≤ x) (h2 : x ≤ 9223372036854775807) : IntKind.i64.wrap x = x := IntWalk.i64_in x ⟨h1, h2⟩
theorem r_lss {x y : Operand} {T T2 : TypeId} {p q : Int} (hx : ρ x = .int .i64 p) (hy : ρ y = .int .i64 q) : (execOp ρ ⟨d, .binOp .lss T x y T2, ty, pos, af, g⟩).run P w = .ok (.value (.bool (decide (p < q)))) w := by
  simp [execOp, hx, hy, eqGuard, binOp, Op.intCmp]
theorem r_leq {x y : Operand} {T T2 : TypeId} {p q : Int} (hx : ρ x = .int .i64 p) (hy : ρ y = .int .i64 q) : (execOp ρ ⟨d, .binOp .leq T x y T2, ty, pos, af, g⟩).run P w = .ok (.value (.bool (decide (p ≤ q)))) w := by
  simp [execOp, hx, hy, eqGuard, binOp, Op.intCmp]
theorem r_gtr {x y : Operand} {T T2 : TypeId} {p q : Int} (hx : ρ x = .int .i64 p) (hy : ρ y = .int .i64 q) : (execOp ρ ⟨d, .binOp .gtr T x y T2, ty, pos, af, g⟩).run P w = .ok (.value (.bool (decide (q < p)))) w := by
  simp [execOp, hx, hy, eqGuard, binOp, Op.intCmp]
theorem r_geq {x y : Operand} {T T2 : TypeId} {p q : Int} (hx : ρ x = .int .i64 p) (hy : ρ y = .int .i64 q) : (execOp ρ ⟨d, .binOp .geq T x y T2, ty, pos, af, g⟩).run P w = .ok (.value (.bool (decide (q ≤ p)))) w := by
  simp [execOp, hx, hy, eqGuard, binOp, Op.intCmp]
theorem r_eql {x y : Operand} {T T2 : TypeId} {p q : Int} {k : IntKind} (hx : ρ x = .int k p) (hy : ρ y = .int k q) : (execOp ρ ⟨d, .binOp .eql T x y T2, ty, pos, af, g⟩).run P w = .ok (.value (.bool (decide (p = q)))) w := by
  simp [execOp, hx, hy, eqGuard, binOp, Op.intCmp]; rfl
theorem r_neq {x y : Operand} {T T2 : TypeId} {p q : Int} {k : IntKind} (hx : ρ x = .int k p) (hy : ρ y = .int k q) : (execOp ρ ⟨d, .binOp .neq T x y T2, ty, pos, af, g⟩).run P w = .ok (.value (.bool (decide (p ≠ q)))) w := by
  simp [execOp, hx, hy, eqGuard, binOp, Op.intCmp]; rfl
theorem r_add {x y : Operand} {T T2 : TypeId} {p q : Int} (hx : ρ x = .int .i64 p) (hy : ρ y = .int .i64 q) (h : -9223372036854775808 ≤ p + q ∧ p + q ≤ 9223372036854775807) :
    (execOp ρ ⟨d, .binOp .add T x y T2, ty, pos, af, g⟩).run P w = .ok (.value (.int .i64 (p + q))) w := by
  simp [execOp, hx, hy, eqGuard, binOp, Op.intArith, wrap_in h.1 h.2]
theorem r_sub {x y : Operand} {T T2 : TypeId} {p q : Int} (hx : ρ x = .int .i64 p) (hy : ρ y = .int .i64 q) (h : -9223372036854775808 ≤ p - q ∧ p - q ≤ 9223372036854775807) :
    (execOp ρ ⟨d, .binOp .sub T x y T2, ty, pos, af, g⟩).run P w = .ok (.value (.int .i64 (p - q))) w := by
  simp [execOp, hx, hy, eqGuard, binOp, Op.intArith, wrap_in h.1 h.2]
theorem r_len_slice {x : Operand} {T E : TypeId} {sz : Nat} {a : Option Addr} {l c : Nat} (hT : SliceOf P T E sz) (hx : ρ x = .slice a l c) :
    (execOp ρ ⟨d, .call { callee := .builtin .len, args := #[x], argTypes := #[T] }, ty, pos, af, g⟩).run P w = .ok (.value (.int .i64 l)) w := by
  simp [execOp, resolve, invoke, builtin, Builtin.len_, hx, underlying, hT.desc, goInt]
theorem r_load1 {x : Operand} {T : TypeId} {z v : Value} {b o : Nat} {cs : Array Value} {E : TypeId} {fz : Nat × Nat} (hT : One P T z) (hx : ρ x = .pointer (some ⟨b, o, none⟩)) (hb : w.heap[b]? = some (.cells cs E fz)) (hv : cs[o]? = some v) :
    (execOp ρ ⟨d, .load T x, ty, pos, af, g⟩).run P w = .ok (.value v) w := by
  obtain ⟨dd, hd, hm⟩ := hT.desc
  have hc : w.cell? ⟨b, o, none⟩ = some v := by simp [World.cell?, hb, hv]
  cases dd <;> simp_all [execOp, Instr.loadAt, Instr.sureAddr, loadVar, isAgg, underlying]
end
end Go.WX

namespace Go.WX
open Go.RowKit
abbrev I64 (x : Int) : Prop := -9223372036854775808 ≤ x ∧ x ≤ 9223372036854775807
/-- Old blocks but those of M are as they were. -/
structure Keep (M : List Nat) (w w' : World) : Prop where
  os : w'.os = w.os
  tape : w'.tape = w.tape
  output : w'.output = w.output
  size : w.heap.size ≤ w'.heap.size
  block : ∀ b, b ∉ M → b < w.heap.size → w'.heap[b]? = w.heap[b]?
abbrev Grow (w w' : World) : Prop := Keep [] w w'
theorem Keep.refl (M : List Nat) (w : World) : Keep M w w := ⟨rfl, rfl, rfl, Nat.le_refl _, fun _ _ _ => rfl⟩
theorem Keep.trans {M : List Nat} {a b c : World} (h : Keep M a b) (k : Keep M b c) : Keep M a c :=
  ⟨k.os.trans h.os, k.tape.trans h.tape, k.output.trans h.output, Nat.le_trans h.size k.size, fun i hm hi => (k.block i hm (Nat.lt_of_lt_of_le hi h.size)).trans (h.block i hm hi)⟩
/-- The second step may write what is new since the first world, or what M lists. -/
theorem Keep.step {M N : List Nat} {a b c : World} (h : Keep M a b) (k : Keep N b c) (hN : ∀ x ∈ N, x < a.heap.size → x ∈ M) : Keep M a c :=
  ⟨k.os.trans h.os, k.tape.trans h.tape, k.output.trans h.output, Nat.le_trans h.size k.size, fun i hm hi => (k.block i (fun hn => hm (hN i hn hi)) (Nat.lt_of_lt_of_le hi h.size)).trans (h.block i hm hi)⟩
theorem Keep.grow {M : List Nat} {a b c : World} (h : Keep M a b) (k : Grow b c) : Keep M a c := h.step k (fun _ h => absurd h List.not_mem_nil)
theorem Keep.weaken {M N : List Nat} {a b : World} (h : Keep M a b) (hs : ∀ x ∈ M, x < a.heap.size → x ∈ N) : Keep N a b := ⟨h.os, h.tape, h.output, h.size, fun i hm hi => h.block i (fun hn => hm (hs i hn hi)) hi⟩
theorem Keep.blk {M : List Nat} {w w' : World} (h : Keep M w w') {b : Nat} {o : Obj} (hb : w.heap[b]? = some o) (hm : b ∉ M) : w'.heap[b]? = some o := by
  have : b < w.heap.size := by
    rcases Nat.lt_or_ge b w.heap.size with h1 | h1
    · exact h1
    · rw [Array.getElem?_eq_none h1] at hb; cases hb
  rw [h.block b hm this, hb]
theorem lt_of_blk {w : World} {b : Nat} {o : Obj} (hb : w.heap[b]? = some o) : b < w.heap.size := by
  rcases Nat.lt_or_ge b w.heap.size with h1 | h1
  · exact h1
  · rw [Array.getElem?_eq_none h1] at hb; cases hb
theorem Grow.blk {w w' : World} (h : Grow w w') {b : Nat} {o : Obj} (hb : w.heap[b]? = some o) : w'.heap[b]? = some o := Keep.blk h hb List.not_mem_nil
theorem Grow.below {w w' : World} (h : Grow w w') : Below w.heap.size w w' := ⟨h.os, h.tape, h.output, h.size, fun k hk => h.block k List.not_mem_nil hk⟩
theorem Grow.of_below {w w' : World} (h : Below w.heap.size w w') : Grow w w' := ⟨h.os, h.tape, h.output, h.size, fun k _ hk => h.block k hk⟩
theorem Grow.alloc (w : World) (o : Obj) : Grow w (w.alloc o) := Grow.of_below ((Below.refl _ _).alloc (Nat.le_refl _) o)
theorem alloc_blk (w : World) (o : Obj) : (w.alloc o).heap[w.heap.size]? = some o := by show (w.heap.push o)[w.heap.size]? = some o; simp
theorem Grow.drew (w : World) : Grow w w.drew := ⟨rfl, rfl, rfl, Nat.le_refl _, fun _ _ _ => rfl⟩

/-- How a datum lies in cells: sz cells; M: blocks that its reading does not touch. -/
structure Rep (α : Type) where
  sz : Nat
  rd : World → List Nat → List Value → α → Prop
  len : ∀ {w M cs x}, rd w M cs x → cs.length = sz
  one : ∀ {w M cs x}, rd w M cs x → ∀ u ∈ cs, u.oneCell' = true
  pos : 0 < sz
  go : ∀ {w M cs x w' M'}, rd w M cs x → Keep M w w' → (∀ b ∈ M', b < w.heap.size → b ∈ M) → rd w' M' cs x

/-- The value v is a slice of such data. -/
def rSliceRd {α : Type} (R : Rep α) (w : World) (M : List Nat) (v : Value) (l : List α) : Prop :=
  ∃ a cap, v = .slice a l.length cap ∧ l.length ≤ cap ∧ cap ≤ maxLen ∧ (a = none → cap = 0) ∧
    ∀ i (h : i < l.length), ∃ b o cells E fz, a = some ⟨b, o, none⟩ ∧ b ∉ M ∧ w.heap[b]? = some (.cells cells E fz) ∧ R.rd w M ((cells.toList.drop (o + i * R.sz)).take R.sz) l[i]
def rSlice {α : Type} (R : Rep α) : Rep (List α) where
  sz := 1
  rd w M cs l := ∃ v, cs = [v] ∧ rSliceRd R w M v l
  len := by rintro w M cs x ⟨v, rfl, _⟩; rfl
  one := by
    rintro w M cs x ⟨v, rfl, a, cap, rfl, _⟩ u hu
    simp at hu; subst hu; rfl
  pos := by decide
  go := by
    rintro w M cs x w' M' ⟨v, rfl, a, cap, rfl, h1, h2, h3, h4⟩ hk hm
    refine ⟨_, rfl, a, cap, rfl, h1, h2, h3, fun i hi => ?_⟩
    obtain ⟨b, o, cells, E, fz, e1, e2, e3, e4⟩ := h4 i hi
    exact ⟨b, o, cells, E, fz, e1, fun h => e2 (hm b h (lt_of_blk e3)), hk.blk e3 e2, R.go e4 hk hm⟩
def rInt : Rep Int where
  sz := 1
  rd _ _ cs x := cs = [.int .i64 x] ∧ I64 x
  len := by rintro w M cs x ⟨rfl, _⟩; rfl
  one := by rintro w M cs x ⟨rfl, _⟩ u hu; simp at hu; subst hu; rfl
  pos := by decide
  go := fun h _ _ => h
def rBool : Rep Bool where
  sz := 1
  rd _ _ cs x := cs = [.bool x]
  len := by rintro w M cs x rfl; rfl
  one := by rintro w M cs x rfl u hu; simp at hu; subst hu; rfl
  pos := by decide
  go := fun h _ _ => h
def rStr : Rep ByteArray where
  sz := 1
  rd _ _ cs x := cs = [.string x] ∧ x.size ≤ 140737488351232
  len := by rintro w M cs x ⟨rfl, _⟩; rfl
  one := by rintro w M cs x ⟨rfl, _⟩ u hu; simp at hu; subst hu; rfl
  pos := by decide
  go := fun h _ _ => h
section
variable {α : Type} {R : Rep α} {w : World} {M : List Nat} {v : Value} {l : List α}
theorem rSliceRd.go {w' : World} {M' : List Nat} (h : rSliceRd R w M v l) (hk : Keep M w w') (hm : ∀ b ∈ M', b < w.heap.size → b ∈ M) : rSliceRd R w' M' v l := by
  obtain ⟨v', e, h'⟩ := (rSlice R).go ⟨v, rfl, h⟩ hk hm
  cases e
  exact h'
theorem rSliceRd.len_le (h : rSliceRd R w M v l) : l.length ≤ 9223372036854775807 := by
  obtain ⟨a, cap, _, h1, h2, _⟩ := h
  unfold maxLen at h2
  omega
theorem rSliceRd.nil : rSliceRd R w M (.slice none 0 0) [] := ⟨none, 0, rfl, Nat.le_refl _, by unfold maxLen; omega, fun _ => rfl, fun i hi => absurd hi (Nat.not_lt_zero _)⟩
end
/-- A pointer to cells that may be read. -/
def PtTo (w : World) (M : List Nat) (p : Value) (cs : List Value) : Prop :=
  ∃ b o cells E fz, p = .pointer (some ⟨b, o, none⟩) ∧ b ∉ M ∧ w.heap[b]? = some (.cells cells E fz) ∧ (cells.toList.drop o).take cs.length = cs
/-- Block b holds these cells. -/
def Blk (w : World) (b : Nat) (cs : List Value) : Prop := ∃ E, w.heap[b]? = some (.cells cs.toArray E (0, 0))
theorem Blk.lt {w : World} {b : Nat} {cs : List Value} (h : Blk w b cs) : b < w.heap.size := let ⟨_, h⟩ := h; lt_of_blk h
theorem Blk.keep {M : List Nat} {w w' : World} {b : Nat} {cs : List Value} (h : Blk w b cs) (hk : Keep M w w') (hm : b ∉ M) : Blk w' b cs := let ⟨E, h⟩ := h; ⟨E, hk.blk h hm⟩
theorem Blk.grow {w w' : World} {b : Nat} {cs : List Value} (h : Blk w b cs) (hk : Grow w w') : Blk w' b cs := h.keep hk List.not_mem_nil
end Go.WX

namespace Go.WX
open Go.RowKit
section
variable {P : Program} {ops : Array Oper} {Q : Exit → Act → World → Prop} {n : Nat} {env : Nat → Value} {w w' : World} {rest : List Oper}
  {d : Option Nat} {op : Op} {ty : TypeId} {pos : String} {af : Array Edge} {v : Value} {g : Option (Nat × Bool)} {T : TypeId} {ρ : Operand → Value}

theorem info_of {P : Program} {T : TypeId} {z : Option Value} {s : Nat} (h : (P.info? T).map (fun i => (i.zero, i.size)) = some (z, s)) : ∃ i, P.info? T = some i ∧ i.zero = z ∧ i.size = s := by
  cases hi : P.info? T with
  | none => simp [hi] at h
  | some i => simp [hi] at h; exact ⟨i, rfl, h.1, h.2⟩
theorem r_allocN {zs : List Value} (hT : Many P T zs) : (execOp ρ ⟨d, .alloc T, ty, pos, af, g⟩).run P w = .ok (.value (.pointer (some ⟨w.heap.size, 0, none⟩))) (w.alloc (.cells zs.toArray T)) := by
  obtain ⟨i, hi, hz, hs⟩ := info_of hT.info
  simp [execOp, Instr.alloc, zeroValue, typeInfo, hi, hz, newVar, newRow, Value.cells, World.alloc, -World.alloc_eq]
theorem r_alloc1 {z : Value} (hT : One P T z) : (execOp ρ ⟨d, .alloc T, ty, pos, af, g⟩).run P w = .ok (.value (.pointer (some ⟨w.heap.size, 0, none⟩))) (w.alloc (.cells #[z] T)) := by
  obtain ⟨i, hi, hz, hs⟩ := info_of hT.info
  simp [execOp, Instr.alloc, zeroValue, typeInfo, hi, hz, newVar, newRow, hT.cell, World.alloc, -World.alloc_eq]
theorem r_box {x : Operand} (hx : ρ x = v) : (execOp ρ ⟨d, .box T x, ty, pos, af, g⟩).run P w = .ok (.value (.pointer (some ⟨w.heap.size, 0, none⟩))) (w.alloc (.cells v.cells T)) := by
  simp [execOp, Instr.box, newVar, newRow, hx, World.alloc, -World.alloc_eq]
theorem wl_allocN {zs : List Value} (hT : Many P T zs) (h : ∀ w' b, w.heap.size = b → Grow w w' → Blk w' b zs → WL P ops Q rest n (updo env d (.pointer (some ⟨b, 0, none⟩))) w') :
    WL P ops Q (⟨d, .alloc T, ty, pos, af, none⟩ :: rest) n env w :=
  wl_ok (r_allocN hT) (h _ _ rfl (Grow.alloc _ _) ⟨T, alloc_blk _ _⟩)
theorem wl_alloc1 {z : Value} (hT : One P T z) (h : ∀ w' b, w.heap.size = b → Grow w w' → Blk w' b [z] → WL P ops Q rest n (updo env d (.pointer (some ⟨b, 0, none⟩))) w') :
    WL P ops Q (⟨d, .alloc T, ty, pos, af, none⟩ :: rest) n env w :=
  wl_ok (r_alloc1 hT) (h _ _ rfl (Grow.alloc _ _) ⟨T, alloc_blk _ _⟩)
theorem wl_box {x : Operand} {cs : List Value} (hx : ev n env x = .agg cs.toArray) (h : ∀ w' b, w.heap.size = b → Grow w w' → Blk w' b cs → WL P ops Q rest n (updo env d (.pointer (some ⟨b, 0, none⟩))) w') :
    WL P ops Q (⟨d, .box T x, ty, pos, af, none⟩ :: rest) n env w :=
  wl_ok (r_box hx) (h _ _ rfl (Grow.alloc _ _) ⟨T, alloc_blk _ _⟩)
/-- A block's cells laid anew. -/
def putb (w : World) (b : Nat) (o : Obj) : World := { w with heap := w.heap.setIfInBounds b o }
theorem putb_blk {w : World} {b : Nat} {o : Obj} (h : b < w.heap.size) : (putb w b o).heap[b]? = some o := by simp [putb, h]
theorem Keep.putb (w : World) (b : Nat) (o : Obj) : Keep [b] w (putb w b o) :=
  ⟨rfl, rfl, rfl, by simp [WX.putb], fun k hk _ => by
    have : b ≠ k := fun e => hk (by simp [e])
    show (w.heap.setIfInBounds b o)[k]? = _
    rw [Array.getElem?_setIfInBounds_ne this]⟩
theorem setCell_putb {w : World} {b o : Nat} {cs : Array Value} {E : TypeId} {fz : Nat × Nat} {v : Value} (hb : w.heap[b]? = some (.cells cs E fz)) : w.setCell ⟨b, o, none⟩ v = putb w b (.cells (cs.setIfInBounds o v) E fz) := by
  simp only [World.setCell, putb]
  congr 1
  have hlt := lt_of_blk hb
  apply Array.ext_getElem?
  intro i
  simp only [Array.getElem?_modify, Array.getElem?_setIfInBounds]
  by_cases hi : b = i
  · subst hi
    rw [if_pos rfl, if_pos rfl, if_pos hlt, hb]
    rfl
  · simp [hi]
theorem r_store1 {x y : Operand} {z : Value} {b o : Nat} {cs : Array Value} {E : TypeId} (hT : One P T z) (hx : ρ x = .pointer (some ⟨b, o, none⟩)) (hb : w.heap[b]? = some (.cells cs E (0, 0))) (ho : o < cs.size) (hy : ρ y = v) (hv : v.oneCell' = true) :
    (execOp ρ ⟨d, .store T x y, ty, pos, af, g⟩).run P w = .ok .skip (putb w b (.cells (cs.setIfInBounds o v) E (0, 0))) := by
  obtain ⟨i, hi, hz, hs⟩ := info_of hT.info
  have hc : w.cell? ⟨b, o, none⟩ = some cs[o] := by simp [World.cell?, hb, ho]
  have hf : w.frozen? ⟨b, o, none⟩ = false := by simp [World.frozen?, hb]
  have hcs : v.cells = #[v] := by cases v <;> first | rfl | simp [Value.oneCell'] at hv
  rw [← setCell_putb hb]
  simp only [execOp, Instr.storeAt, hx, hy, Instr.sureAddr, storeVar, hcs, sizeOf, typeInfo]
  simp [hi, hs, storeCells, run_store _ _ _ _ _ hv, hc, hf, Addr.add]
theorem wl_store1 {x y : Operand} {z : Value} {b o : Nat} {cs : List Value} (hT : One P T z) (hx : ev n env x = .pointer (some ⟨b, o, none⟩)) (hb : Blk w b cs) (hy : ev n env y = v) (ho : o < cs.length) (hv : v.oneCell' = true)
    (h : ∀ w', Keep [b] w w' → Blk w' b (cs.set o v) → WL P ops Q rest n (updo env d undef) w') :
    WL P ops Q (⟨d, .store T x y, ty, pos, af, none⟩ :: rest) n env w := by
  obtain ⟨E, hb'⟩ := hb
  refine wl_skip (r_store1 hT hx hb' (by simpa using ho) hy hv) (h _ (Keep.putb _ _ _) ⟨E, ?_⟩)
  rw [putb_blk (lt_of_blk hb')]
  simp
theorem setRow_putb {w : World} {b : Nat} {cs cs' : Array Value} {E : TypeId} {fz : Nat × Nat} (hb : w.heap[b]? = some (.cells cs E fz)) : w.setRow b cs' = putb w b (.cells cs' E fz) := by
  simp only [World.setRow, putb]
  congr 1
  have hlt := lt_of_blk hb
  apply Array.ext_getElem?
  intro i
  simp only [Array.getElem?_modify, Array.getElem?_setIfInBounds]
  by_cases hi : b = i
  · subst hi
    rw [if_pos rfl, if_pos rfl, if_pos hlt, hb]
    rfl
  · simp [hi]
/-- A whole struct stored over a block's cells from o on. -/
def spl (cs : List Value) (o : Nat) (vs : List Value) : List Value := cs.take o ++ vs ++ cs.drop (o + vs.length)
theorem r_storeN {x y : Operand} {zs vs : List Value} {b o : Nat} {cs : List Value} {E : TypeId} (hT : Many P T zs) (hx : ρ x = .pointer (some ⟨b, o, none⟩)) (hb : w.heap[b]? = some (.cells cs.toArray E (0, 0))) (hy : ρ y = .agg vs.toArray) (hl : vs.length = zs.length) (ho : o + vs.length ≤ cs.length) (hv : ∀ v ∈ vs, v.oneCell' = true) :
    (execOp ρ ⟨d, .store T x y, ty, pos, af, g⟩).run P w = .ok .skip (putb w b (.cells (spl cs o vs).toArray E (0, 0))) := by
  obtain ⟨i, hi, hz, hs⟩ := info_of hT.info
  have := run_storeCells_at (P := P) b o E vs 0 cs.toArray w hb (by simpa using ho) hv
  simp only [execOp, Instr.storeAt, hx, hy, Instr.sureAddr, storeVar, Value.cells, sizeOf, typeInfo]
  simp [hi, hs, hl, this, setRow_putb hb, spl]
theorem wl_storeN {x y : Operand} {zs vs : List Value} {b o : Nat} {cs : List Value} (hT : Many P T zs) (hx : ev n env x = .pointer (some ⟨b, o, none⟩)) (hb : Blk w b cs) (hy : ev n env y = .agg vs.toArray) (hl : vs.length = zs.length) (ho : o + vs.length ≤ cs.length) (hv : ∀ v ∈ vs, v.oneCell' = true)
    (h : ∀ w', Keep [b] w w' → Blk w' b (spl cs o vs) → WL P ops Q rest n (updo env d undef) w') :
    WL P ops Q (⟨d, .store T x y, ty, pos, af, none⟩ :: rest) n env w := by
  obtain ⟨E, hb'⟩ := hb
  exact wl_skip (r_storeN hT hx hb' hy hl ho hv) (h _ (Keep.putb _ _ _) ⟨E, putb_blk (lt_of_blk hb')⟩)
theorem r_loadN {x : Operand} {zs vs : List Value} {b o : Nat} {cells : Array Value} {E : TypeId} {fz : Nat × Nat} (hT : Many P T zs) (hx : ρ x = .pointer (some ⟨b, o, none⟩)) (hb : w.heap[b]? = some (.cells cells E fz)) (hv : (cells.toList.drop o).take zs.length = vs) (hl : vs.length = zs.length) :
    (execOp ρ ⟨d, .load T x, ty, pos, af, g⟩).run P w = .ok (.value (.agg vs.toArray)) w := by
  obtain ⟨i, hi, hz, hs⟩ := info_of hT.info
  obtain ⟨dd, hd, hm⟩ := hT.desc
  have hc : ∀ j v, vs[j]? = some v → w.cell? ((⟨b, o, none⟩ : Addr).add j) = some v := by
    intro j v hj
    have hj' : j < zs.length := by
      rcases Nat.lt_or_ge j vs.length with h | h
      · omega
      · rw [List.getElem?_eq_none h] at hj; cases hj
    rw [← hv, List.getElem?_take, if_pos hj', List.getElem?_drop] at hj
    by_cases h0 : j = 0
    · subst h0; simpa [Addr.add, World.cell?, hb] using hj
    · simpa [Addr.add, World.cell?, hb, h0] using hj
  have hr := run_loadCells_list (P := P) (w := w) ⟨b, o, none⟩ vs hc
  rw [hl] at hr
  cases dd <;> simp at hm <;> simp [execOp, Instr.loadAt, hx, Instr.sureAddr, loadVar, isAgg, underlying, hd, sizeOf, typeInfo, hi, hs, hr]
/-- Loads off a block of one's own. -/
theorem r_loadB1 {x : Operand} {z : Value} {b o : Nat} {cs : List Value} (hT : One P T z) (hx : ρ x = .pointer (some ⟨b, o, none⟩)) (hb : Blk w b cs) (hv : cs[o]? = some v) :
    (execOp ρ ⟨d, .load T x, ty, pos, af, g⟩).run P w = .ok (.value v) w := let ⟨_, hb⟩ := hb; r_load1 hT hx hb (by simpa using hv)
theorem r_loadBN {x : Operand} {zs vs : List Value} {b o : Nat} {cs : List Value} (hT : Many P T zs) (hx : ρ x = .pointer (some ⟨b, o, none⟩)) (hb : Blk w b cs) (hv : (cs.drop o).take zs.length = vs) (hl : vs.length = zs.length) :
    (execOp ρ ⟨d, .load T x, ty, pos, af, g⟩).run P w = .ok (.value (.agg vs.toArray)) w := let ⟨_, hb⟩ := hb; r_loadN hT hx hb (by simpa using hv) hl
/-- Loads through a pointer into what may be read. -/
theorem r_loadP1 {x : Operand} {z : Value} {M : List Nat} {p : Value} (hT : One P T z) (hx : ρ x = p) (hp : PtTo w M p [v]) : (execOp ρ ⟨d, .load T x, ty, pos, af, g⟩).run P w = .ok (.value v) w := by
  obtain ⟨b, o, cells, E, fz, rfl, _, hb, hc⟩ := hp
  refine r_load1 hT hx hb ?_
  have h0 : ((cells.toList.drop o).take [v].length)[0]? = some v := by rw [hc]; rfl
  rw [List.getElem?_take, if_pos (by simp), List.getElem?_drop] at h0
  simpa using h0
theorem r_loadPN {x : Operand} {zs cs : List Value} {M : List Nat} {p : Value} (hT : Many P T zs) (hx : ρ x = p) (hp : PtTo w M p cs) (hl : cs.length = zs.length) : (execOp ρ ⟨d, .load T x, ty, pos, af, g⟩).run P w = .ok (.value (.agg cs.toArray)) w := by
  obtain ⟨b, o, cells, E, fz, rfl, _, hb, hc⟩ := hp
  exact r_loadN hT hx hb (by rw [← hl]; exact hc) hl
theorem r_fieldAddr {x : Operand} {b o k off : Nat} (hT : FieldAt P T k off) (hx : ρ x = .pointer (some ⟨b, o, none⟩)) :
    (execOp ρ ⟨d, .fieldAddr T x k, ty, pos, af, g⟩).run P w = .ok (.value (.pointer (some ⟨b, o + off, none⟩))) w := by
  obtain ⟨fs, f, s, h1, h2, h3, h4⟩ := hT.desc
  obtain ⟨i, hi, hs⟩ : ∃ i, P.info? f.type = some i ∧ i.size = s + 1 := by
    cases hi : P.info? f.type with
    | none => simp [hi] at h4
    | some i => simp [hi] at h4; exact ⟨i, rfl, h4⟩
  by_cases h0 : off = 0 <;> simp [execOp, Instr.fieldAt, underlying, h1, h2, hx, Instr.sureAddr, fieldPlace, sizeOf, typeInfo, hi, hs, h3, Addr.add, h0]
theorem r_nilCheck {x : Operand} {a : Addr} (hx : ρ x = .pointer (some a)) : (execOp ρ ⟨d, .nilCheck x, ty, pos, af, g⟩).run P w = .ok (.value (.pointer (some a))) w := by
  simp [execOp, hx]
theorem drop_take_add {l : List Value} {o k m s : Nat} {cs : List Value} (h : (l.drop o).take s = cs) (hk : k + m ≤ s) : (l.drop (o + k)).take m = (cs.drop k).take m := by
  rw [← h, List.drop_take, List.take_take, List.drop_drop, Nat.min_eq_left (by omega)]
/-- The address of an element. -/
theorem r_indexAddr {α : Type} {R : Rep α} {x y : Operand} {E : TypeId} {M : List Nat} {l : List α} {k : Int} (hT : SliceOf P T E R.sz) (hx : ρ x = v) (hv : rSliceRd R w M v l) (hy : ρ y = .int .i64 k) (h0 : 0 ≤ k) (hk : k < l.length) :
    ∃ p cs, (∀ w, (execOp ρ ⟨d, .indexAddr T x y, ty, pos, af, g⟩).run P w = .ok (.value p) w) ∧ PtTo w M p cs ∧ R.rd w M cs (l[k.toNat]'(by omega)) := by
  obtain ⟨a, cap, rfl, h1, h2, h3, h4⟩ := hv
  obtain ⟨b, o, cells, F, fz, rfl, e2, e3, e4⟩ := h4 k.toNat (by omega)
  obtain ⟨i, hi, hs⟩ : ∃ i, P.info? E = some i ∧ i.size = R.sz := by
    have := hT.info
    cases hi : P.info? E with
    | none => simp [hi] at this
    | some i => simp [hi] at this; exact ⟨i, rfl, this⟩
  refine ⟨.pointer (some ⟨b, o + k.toNat * R.sz, none⟩), _, ?_, ⟨b, _, cells, F, fz, rfl, e2, e3, ?_⟩, e4⟩
  · intro w
    simp only [execOp, Instr.indexAt, hx, hy, asIntOf, underlying, sizeOf, typeInfo]
    have ha : (⟨b, o, none⟩ : Addr).add (k.toNat * R.sz) = ⟨b, o + k.toNat * R.sz, none⟩ := by
      unfold Addr.add
      split
      · next hz => rw [hz]; rfl
      · rfl
    simp [hT.desc, hi, hs, h0, hk, ha]
  · rw [R.len e4]
theorem r_len_rd {α : Type} {R : Rep α} {x : Operand} {E : TypeId} {sz : Nat} {M : List Nat} {l : List α} {w0 : World} (hT : SliceOf P T E sz) (hx : ρ x = v) (hv : rSliceRd R w0 M v l) :
    (execOp ρ ⟨d, .call { callee := .builtin .len, args := #[x], argTypes := #[T] }, ty, pos, af, g⟩).run P w = .ok (.value (.int .i64 l.length)) w := by
  obtain ⟨a, cap, rfl, _⟩ := hv
  exact r_len_slice hT hx
def FnOk (P : Program) (f : FuncId) : Prop := ∃ fn, P.funcs[f]? = some fn ∧ (fn.name == "runtime.NumGoroutine") = false ∧ fn.body.isNone = false
theorem r_call {x : Operand} {f : FuncId} {first captured : Array Value} {xs : Array Operand} {ts : Array TypeId} (hf : FnOk P f) (hx : ρ x = .func (.func f) first captured) :
    (execOp ρ ⟨d, .call { callee := .value x, args := xs, argTypes := ts }, ty, pos, af, g⟩).run P w = .ok (.enter f (first ++ xs.map ρ ++ captured)) w := by
  obtain ⟨fn, h1, h2, h3⟩ := hf
  have h2' : ¬ fn.name = "runtime.NumGoroutine" := by simpa using h2
  have h3' : ¬ fn.body = none := fun e => by simp [e] at h3
  simp [execOp, resolve, hx, Deferred.ofValue, invoke, callFunc, h1, h2', h3']
/-- A call: its contract c, at the arguments that stand there. -/
theorem wl_call {x : Operand} {f : FuncId} {first captured : Array Value} {xs : Array Operand} {ts : Array TypeId} {args : List Value} {R : Ending → World → Prop} (hf : FnOk P f) (hx : ev n env x = .func (.func f) first captured)
    (ha : first.toList ++ xs.toList.map (ev n env) ++ captured.toList = args) (hc : Calls P f args.toArray w R)
    (h : ∀ e w', R e w' → ∃ v, e = .returned v ∧ WL P ops Q rest n (updo env d v) w') :
    WL P ops Q (⟨d, .call { callee := .value x, args := xs, argTypes := ts }, ty, pos, af, none⟩ :: rest) n env w := by
  refine wl_enter (r_call hf hx) ?_ h
  have : first ++ xs.map (ev n env) ++ captured = args.toArray := by
    rw [← ha]; apply Array.ext'; simp
  rw [this]
  exact hc
theorem r_extract {x : Operand} {i : Nat} {vs : List Value} (hx : ρ x = .tuple vs.toArray) (hv : vs[i]? = some v) : (execOp ρ ⟨d, .extract x i, ty, pos, af, g⟩).run P w = .ok (.value v) w := by
  simp [execOp, Instr.extract, hx, hv]
/-- The function's start and ends. -/
theorem calls_start {f : FuncId} {fn : Func} {c : Code} {args : List Value} {R : Ending → World → Prop} {n : Nat}
    (hf : P.funcs[f]? = some fn) (hb : fn.body = some c) (hn : fn.ntmps = n) (hl : args.length ≤ n)
    (h : WC P c (bodyPost P fn R) n (env0 args) w) : Calls P f args.toArray w R := by
  refine calls_of_wp hf hb ?_
  rw [hn, act_init n args hl]
  exact h.out
theorem fin1 {fn : Func} {R : Ending → World → Prop} {t : Tmp} (hr : fn.results = #[.tmp t]) (hv : ev n env (.tmp t) = v) (h : R (.returned v) w) : bodyPost P fn R .ret (act n env) w := by
  refine ⟨rfl, v, ?_, h⟩
  rw [results_tmp hr]
  have := congrFun (act_eval n env) (.tmp t)
  rw [hv] at this
  exact congrArg (fun v => Result.ok v w) this
theorem fin1n {fn : Func} {R : Ending → World → Prop} {t : Tmp} (hr : fn.results = #[.tmp t]) (hv : ev n env (.tmp t) = v) (h : R (.returned v) w) : bodyPost P fn R .normal (act n env) w := fin1 hr hv h
theorem fin0 {fn : Func} {R : Ending → World → Prop} (hr : fn.results = #[]) (h : R (.returned (.tuple #[])) w) : bodyPost P fn R .ret (act n env) w := ⟨rfl, _, results_none hr _ _ _, h⟩
theorem fin0n {fn : Func} {R : Ending → World → Prop} (hr : fn.results = #[]) (h : R (.returned (.tuple #[])) w) : bodyPost P fn R .normal (act n env) w := ⟨rfl, _, results_none hr _ _ _, h⟩
theorem fin2 {fn : Func} {R : Ending → World → Prop} {t u : Tmp} {v1 v2 : Value} (hr : fn.results = #[.tmp t, .tmp u]) (h1 : ev n env (.tmp t) = v1) (h2 : ev n env (.tmp u) = v2) (h : R (.returned (.tuple #[v1, v2])) w) : bodyPost P fn R .ret (act n env) w := by
  refine ⟨rfl, _, ?_, h⟩
  rw [results_tmp2 hr]
  have e1 := congrFun (act_eval n env) (.tmp t)
  have e2 := congrFun (act_eval n env) (.tmp u)
  rw [h1] at e1
  rw [h2] at e2
  simp only [Act.eval] at e1 e2
  rw [e1, e2]
end
end Go.WX

namespace Go.WX
open Go.RowKit
section
variable {K : Act → World → Prop} {Q : Exit → Act → World → Prop} {a : Act} {w : World} {i j : Nat}
theorem then_loop (h : K a w) : Exit.then K Q .normal a w := h
theorem then_ret (h : Q .ret a w) : Exit.then K Q .ret a w := h
theorem then_exit (h : Q (.exit i) a w) : Exit.then K Q (.exit i) a w := h
theorem inBlock_normal (h : Q .normal a w) : Exit.inBlock i Q .normal a w := h
theorem inBlock_ret (h : Q .ret a w) : Exit.inBlock i Q .ret a w := h
theorem inBlock_eq (h : Q .normal a w) : Exit.inBlock i Q (.exit i) a w := by simp only [Exit.inBlock, if_true]; exact h
theorem inBlock_ne (hn : ¬ j = i) (h : Q (.exit j) a w) : Exit.inBlock i Q (.exit j) a w := by simp only [Exit.inBlock, if_neg hn]; exact h
end
theorem Keep.one {M : List Nat} {w w' : World} {b : Nat} (h : Keep [b] w w') (hb : b ∈ M) : Keep M w w' := h.weaken (fun x hx _ => by simp at hx; subst hx; exact hb)
theorem mem_new {w : World} {b : Nat} {M : List Nat} (e : w.heap.size = b) : ∀ x ∈ b :: M, x < w.heap.size → x ∈ M := by
  intro x hx hl
  rcases List.mem_cons.1 hx with rfl | hx
  · omega
  · exact hx
section
variable {P : Program} {ops : Array Oper} {Q : Exit → Act → World → Prop} {n : Nat} {env : Nat → Value} {w w' : World} {rest : List Oper}
  {d : Option Nat} {op : Op} {ty : TypeId} {pos : String} {af : Array Edge} {v : Value} {g : Option (Nat × Bool)} {T : TypeId} {ρ : Operand → Value}
theorem wl_index {α : Type} {R : Rep α} {x y : Operand} {E : TypeId} {sz : Nat} {M : List Nat} {l : List α} {k : Int} (hT : SliceOf P T E sz) (hs : R.sz = sz) (hx : ev n env x = v) (hv : rSliceRd R w M v l) (hy : ev n env y = .int .i64 k) (h0 : 0 ≤ k) (hk : k < l.length)
    (h : ∀ p cs x, l[k.toNat]? = some x → PtTo w M p cs → R.rd w M cs x → WL P ops Q rest n (updo env d p) w) :
    WL P ops Q (⟨d, .indexAddr T x y, ty, pos, af, none⟩ :: rest) n env w := by
  subst hs
  obtain ⟨p, cs, h1, h2, h3⟩ := r_indexAddr (d := d) (ty := ty) (pos := pos) (af := af) (g := none) hT hx hv hy h0 hk
  exact wl_ok (h1 w) (h p cs _ (List.getElem?_eq_getElem (by omega)) h2 h3)
theorem wl_indexN {α : Type} {R : Rep α} {x y : Operand} {E : TypeId} {sz : Nat} {M : List Nat} {l : List α} {k : Nat} (hT : SliceOf P T E sz) (hs : R.sz = sz) (hx : ev n env x = v) (hv : rSliceRd R w M v l) (hy : ev n env y = .int .i64 (k : Int)) (hk : k < l.length)
    (h : ∀ p cs x, l[k]? = some x → PtTo w M p cs → R.rd w M cs x → WL P ops Q rest n (updo env d p) w) :
    WL P ops Q (⟨d, .indexAddr T x y, ty, pos, af, none⟩ :: rest) n env w :=
  wl_index hT hs hx hv hy (Int.natCast_nonneg k) (by omega) (fun p cs x hx => h p cs x (by simpa using hx))
theorem Agr.os {mod : Nat → Bool} {e entry : Nat → Value} {d : Nat} {v : Value} (hd : mod d = true) (h : Agr mod e entry) : Agr mod (updo e (some d) v) entry := Agr.upd hd h
theorem Agr.on {mod : Nat → Bool} {e entry : Nat → Value} {v : Value} (h : Agr mod e entry) : Agr mod (updo e none v) entry := h
theorem Agr.uc {mod : Nat → Bool} {e entry : Nat → Value} {d : Nat} {v : Value} {l : List (Nat × Value)} (hd : mod d = true) (h : Agr mod (upds e l) entry) : Agr mod (upds e ((d, v) :: l)) entry := Agr.upd hd h
theorem Agr.un {mod : Nat → Bool} {e entry : Nat → Value} (h : Agr mod e entry) : Agr mod (upds e []) entry := h
def inl (l : List Nat) (i : Nat) : Bool := match l with | [] => false | a :: r => bif Nat.beq i a then true else inl r i
def subl (l m : List Nat) : Bool := match l with | [] => true | a :: r => bif inl m a then subl r m else false
theorem subl_inl {m : List Nat} : ∀ {l : List Nat}, subl l m = true → ∀ i, inl l i = true → inl m i = true
  | [], _, i, h => by simp [inl] at h
  | a :: r, hs, i, h => by
    unfold subl at hs
    unfold inl at h
    cases ha : inl m a with
    | false => simp [ha] at hs
    | true =>
      simp only [ha, cond_true] at hs
      cases hb : Nat.beq i a with
      | true => have := Nat.eq_of_beq_eq_true hb; subst this; exact ha
      | false => simp only [hb, cond_false] at h; exact subl_inl hs i h
theorem Agr.hin {l m : List Nat} {j e entry : Nat → Value} (hs : subl l m = true) (h : Agr (inl m) e entry) : Agr (inl m) (WX.hav (inl l) j e) entry := fun i hi => by
  have : inl l i = false := by
    cases hc : inl l i with
    | false => rfl
    | true => rw [subl_inl hs i hc] at hi; cases hi
  simp only [WX.hav, this, cond_false]
  exact h i hi
theorem drop_done {α : Type} {l : List α} {k : Nat} (h : ¬ (k : Int) < (l.length : Nat)) : l.drop k = [] := List.drop_eq_nil_of_le (by omega)
theorem ret_int {a b : Int} (h : a = b) : Ending.returned (.int .i64 a) = .returned (.int .i64 b) := by rw [h]
theorem drop_some {α : Type} {l : List α} {k : Nat} {x : α} (h : l[k]? = some x) : l.drop k = x :: l.drop (k + 1) := by
  have hk : k < l.length := by
    rcases Nat.lt_or_ge k l.length with h1 | h1
    · exact h1
    · rw [List.getElem?_eq_none h1] at h; cases h
  rw [List.drop_eq_getElem_cons hk]
  rw [List.getElem?_eq_getElem hk] at h
  cases h
  rfl
end
theorem PtTo.go {w w' : World} {M M' : List Nat} {p : Value} {cs : List Value} (h : PtTo w M p cs) (hk : Keep M w w') (hm : ∀ b ∈ M', b < w.heap.size → b ∈ M) : PtTo w' M' p cs := by
  obtain ⟨b, o, cells, E, fz, e1, e2, e3, e4⟩ := h
  exact ⟨b, o, cells, E, fz, e1, fun hb => e2 (hm b hb (lt_of_blk e3)), hk.blk e3 e2, e4⟩
theorem rSliceRd.one {α : Type} {R : Rep α} {w : World} {M : List Nat} {v : Value} {l : List α} (h : rSliceRd R w M v l) : v.oneCell' = true := by
  obtain ⟨a, cap, rfl, _⟩ := h
  rfl
end Go.WX

namespace Go.WX
structure Val where
  kind : Int
  n : Int
def rVal : Rep Val where
  sz := 2
  rd _ _ cs x := cs = [.int .i64 x.kind, .int .i64 x.n] ∧ I64 x.kind ∧ I64 x.n
  len := by rintro w M cs x ⟨rfl, _⟩; rfl
  one := by rintro w M cs x ⟨rfl, _⟩ u hu; simp at hu; rcases hu with rfl | rfl <;> rfl
  pos := by decide
  go := fun h _ _ => h
theorem rVal_open {w : World} {M : List Nat} {cs : List Value} {x : Val} (h : rVal.rd w M cs x) : cs = [.int .i64 x.kind, .int .i64 x.n] ∧ I64 x.kind ∧ I64 x.n := h
end Go.WX

namespace Go.WX
open Go.RowKit Go.MapKept
/-- Block b is a map with int keys: its entries as laid, in order. -/
def MapIs (w : World) (b : Nat) (ents : List (Int × Value)) : Prop :=
  ∃ es clock, w.heap[b]? = some (.map es clock) ∧ es.toList.map (fun e => (e.key, e.val)) = ents.map (fun p => (Value.int .i64 p.1, p.2))
def aget (z : Value) (ents : List (Int × Value)) (k : Int) : Value := match ents with | [] => z | p :: r => if k = p.1 then p.2 else aget z r k
def aset (ents : List (Int × Value)) (k : Int) (v : Value) : List (Int × Value) := match ents with | [] => [(k, v)] | p :: r => if k = p.1 then (p.1, v) :: r else p :: aset r k v
def ahas (ents : List (Int × Value)) (k : Int) : Bool := match ents with | [] => false | p :: r => if k = p.1 then true else ahas r k
def aidx (ents : List (Int × Value)) (k : Int) (i : Nat) : Option (Nat × Value) := match ents with | [] => none | p :: r => if k = p.1 then some (i, p.2) else aidx r k (i + 1)
theorem findNow_ints {ents : List (Int × Value)} {k : Int} : ∀ {es : List MapEntry} {i : Nat}, es.map (fun e => (e.key, e.val)) = ents.map (fun p => (Value.int .i64 p.1, p.2)) →
    Instr.findNow (.int .i64) (.int .i64 k) es i = some (aidx ents k i) := by
  induction ents with
  | nil => intro es i h; cases es with | nil => rfl | cons e r => simp at h
  | cons p r ih =>
    intro es i h
    cases es with
    | nil => simp at h
    | cons e s =>
      simp only [List.map_cons, List.cons.injEq, Prod.mk.injEq] at h
      obtain ⟨⟨h1, h2⟩, h3⟩ := h
      unfold Instr.findNow aidx
      by_cases hk : k = p.1
      · simp [Instr.sameNow, h1, h2, hk]
      · have : (k == p.1) = false := by simpa using hk
        simp [Instr.sameNow, h1, this, hk, ih h3]
theorem aidx_get {z : Value} {k : Int} : ∀ {ents : List (Int × Value)} {i : Nat}, aget z ents k = match aidx ents k i with | some (_, v) => v | none => z
  | [], i => rfl
  | p :: r, i => by
    unfold aget aidx
    by_cases hk : k = p.1
    · simp [hk]
    · simp only [hk, if_false]; exact aidx_get
theorem aidx_none {k : Int} {v : Value} : ∀ {ents : List (Int × Value)} {i : Nat}, aidx ents k i = none → aset ents k v = ents ++ [(k, v)]
  | [], i, _ => rfl
  | p :: r, i, h => by
    unfold aidx at h
    unfold aset
    by_cases hk : k = p.1
    · simp [hk] at h
    · simp only [hk, if_false] at h ⊢
      rw [aidx_none h]; rfl
theorem aidx_some {k : Int} {v u : Value} : ∀ {ents : List (Int × Value)} {i j : Nat}, aidx ents k i = some (j, u) → i ≤ j ∧ ∃ p, ents[j - i]? = some p ∧ p.1 = k ∧ aset ents k v = ents.set (j - i) (k, v)
  | [], i, j, h => by cases h
  | p :: r, i, j, h => by
    unfold aidx at h
    unfold aset
    by_cases hk : k = p.1
    · simp only [hk, if_true, Option.some.injEq, Prod.mk.injEq] at h
      obtain ⟨rfl, _⟩ := h
      refine ⟨Nat.le_refl _, p, by simp, hk.symm, ?_⟩
      simp [hk]
    · simp only [hk, if_false] at h ⊢
      obtain ⟨h1, q, h2, h3, h4⟩ := aidx_some (v := v) h
      refine ⟨by omega, q, ?_, h3, ?_⟩
      · rw [show j - i = (j - (i + 1)) + 1 by omega]; simpa using h2
      · rw [show j - i = (j - (i + 1)) + 1 by omega, h4]; simp
section
variable {P : Program} {ops : Array Oper} {Q : Exit → Act → World → Prop} {n : Nat} {env : Nat → Value} {w w' : World} {rest : List Oper}
  {d : Option Nat} {op : Op} {ty : TypeId} {pos : String} {af : Array Edge} {v : Value} {g : Option (Nat × Bool)} {T : TypeId} {ρ : Operand → Value}
/-- A map type with int keys; z: the elements' zero. -/
structure MapOf (P : Program) (T : TypeId) (z : Value) : Prop where
  desc : ∃ K E, P.underlying T = some (.map K E) ∧ P.underlying K = some (.int .i64) ∧ (P.info? E).map (·.zero) = some (some z)
theorem r_makeMap : (execOp ρ ⟨d, .makeMap T none, ty, pos, af, g⟩).run P w = .ok (.value (.map (some w.heap.size))) (w.alloc (.map #[] 0)) := by
  simp [execOp, Instr.makeMap, World.alloc, -World.alloc_eq]
theorem wl_makeMap (h : ∀ w' b, w.heap.size = b → Grow w w' → MapIs w' b [] → WL P ops Q rest n (updo env d (.map (some b))) w') : WL P ops Q (⟨d, .makeMap T none, ty, pos, af, none⟩ :: rest) n env w :=
  wl_ok r_makeMap (h _ _ rfl (Grow.alloc _ _) ⟨#[], 0, alloc_blk _ _, rfl⟩)
theorem ckInt {e : Bool} {K : TypeId} {k : Int} (hK : P.underlying K = some (.int .i64)) : (Instr.checkKey e 10000 K (.int .i64 k)).run P w = .ok () w :=
  run_checkKey hK (by trivial) e 9999
theorem r_lookup {z : Value} {x y : Operand} {b : Nat} {k : Int} {ents : List (Int × Value)} (hT : MapOf P T z) (hx : ρ x = .map (some b)) (hy : ρ y = .int .i64 k) (hb : MapIs w b ents) :
    (execOp ρ ⟨d, .lookup T x y false, ty, pos, af, g⟩).run P w = .ok (.value (aget z ents k)) w := by
  obtain ⟨K, E, h1, h2, h3⟩ := hT.desc
  obtain ⟨es, clock, hb, he⟩ := hb
  obtain ⟨i, hi, hz⟩ : ∃ i, P.info? E = some i ∧ i.zero = some z := by
    cases hi : P.info? E with
    | none => simp [hi] at h3
    | some i => simp [hi] at h3; exact ⟨i, rfl, h3⟩
  have hf := findNow_ints (k := k) (i := 0) he
  have hg : (getObj b).run P w = .ok (.map es clock) w := by simp [getObj, Sem.run, hb]
  rw [aidx_get (z := z) (k := k) (ents := ents) (i := 0)]
  simp only [execOp, Instr.lookup, underlying, hx, hy]
  have hc := fun e => ckInt (P := P) (w := w) (e := e) (K := K) (k := k) h2
  simp only [Sem.run_bind, run_program, Result.andThen_ok, h1, Sem.run_pure, hg, hc, Instr.findKey, underlying, h2, hf]
  cases ha : aidx ents k 0 with
  | none => simp [zeroValue, typeInfo, hi, hz]
  | some p => simp
theorem wl_lookup {z : Value} {x y : Operand} {b : Nat} {k : Int} {ents : List (Int × Value)} (hT : MapOf P T z) (hx : ev n env x = .map (some b)) (hy : ev n env y = .int .i64 k) (hb : MapIs w b ents) (hv : aget z ents k = v) (h : WL P ops Q rest n (updo env d v) w) :
    WL P ops Q (⟨d, .lookup T x y false, ty, pos, af, none⟩ :: rest) n env w := wl_ok (by rw [← hv]; exact r_lookup hT hx hy hb) h
theorem wl_mapUpdate {z : Value} {x y u : Operand} {b : Nat} {k : Int} {ents : List (Int × Value)} (hT : MapOf P T z) (hx : ev n env x = .map (some b)) (hy : ev n env y = .int .i64 k) (hu : ev n env u = v) (hb : MapIs w b ents)
    (h : ∀ w', Keep [b] w w' → MapIs w' b (aset ents k v) → WL P ops Q rest n (updo env d undef) w') :
    WL P ops Q (⟨d, .mapUpdate T x y u, ty, pos, af, none⟩ :: rest) n env w := by
  obtain ⟨K, E, h1, h2, h3⟩ := hT.desc
  obtain ⟨es, clock, hb, he⟩ := hb
  have hf := findNow_ints (k := k) (i := 0) he
  have hg : (getObj b).run P w = .ok (.map es clock) w := by simp [getObj, Sem.run, hb]
  have hlt := lt_of_blk hb
  have hc := fun e => ckInt (P := P) (w := w) (e := e) (K := K) (k := k) h2
  have hlen : es.toList.length = ents.length := by have := congrArg List.length he; simpa using this
  cases ha : aidx ents k 0 with
  | none =>
    refine wl_skip (w' := putb w b (.map (es.push { key := .int .i64 k, val := v, born := clock }) (clock + 1))) ?_ (h _ (Keep.putb _ _ _) ⟨_, _, putb_blk hlt, ?_⟩)
    · rw [ha] at hf
      simp only [execOp, Instr.mapUpdate, underlying, hx, hy, hu]
      simp only [Sem.run_bind, run_program, Result.andThen_ok, h1, Sem.run_pure, hg, hc, Instr.findKey, underlying, h2, hf, run_setObj_map _ hb]
      rfl
    · rw [aidx_none ha]
      simp [he]
  | some p =>
    obtain ⟨j, u0⟩ := p
    obtain ⟨_, q, hq, hqk, hset⟩ := aidx_some (v := v) ha
    simp only [Nat.sub_zero] at hq hset
    have hj : j < es.size := by
      have h5 : j < ents.length := by
        rcases Nat.lt_or_ge j ents.length with h5 | h5
        · exact h5
        · rw [List.getElem?_eq_none h5] at hq; cases hq
      simpa [← hlen] using h5
    have hkey : es[j].key = .int .i64 k := by
      have h6 := congrArg (fun l => l[j]?) he
      simp [hq, hj] at h6
      rw [h6.1, hqk]
    refine wl_skip (w' := putb w b (.map (es.modify j fun e => { e with key := .int .i64 k, val := v }) clock)) ?_ (h _ (Keep.putb _ _ _) ⟨_, _, putb_blk hlt, ?_⟩)
    · rw [ha] at hf
      have hks : (Instr.keyThatStays (.int .i64 k) (.int .i64 k)).run P w = .ok (.int .i64 k) w := by simp [Instr.keyThatStays, Instr.sameBits]
      simp only [execOp, Instr.mapUpdate, underlying, hx, hy, hu]
      simp only [Sem.run_bind, run_program, Result.andThen_ok, h1, Sem.run_pure, hg, hc, Instr.findKey, underlying, h2, hf, Array.getElem?_eq_getElem hj, Option.map_some, Option.getD_some, hkey, hks, run_setObj_map _ hb]
      rfl
    · rw [hset, List.map_set, ← he]
      apply List.ext_getElem?
      intro i
      simp only [List.getElem?_map, Array.getElem?_toList, Array.getElem?_modify, List.getElem?_set, List.length_map, Array.length_toList]
      by_cases hi : j = i
      · subst hi; simp [hj]
      · simp [hi]
theorem MapIs.keep {M : List Nat} {b : Nat} {ents : List (Int × Value)} (h : MapIs w b ents) (hk : Keep M w w') (hm : b ∉ M) : MapIs w' b ents := by
  obtain ⟨es, c, hb, he⟩ := h
  exact ⟨es, c, hk.blk hb hm, he⟩
theorem MapIs.grow {b : Nat} {ents : List (Int × Value)} (h : MapIs w b ents) (hk : Grow w w') : MapIs w' b ents := h.keep hk List.not_mem_nil
theorem MapIs.lt {b : Nat} {ents : List (Int × Value)} (h : MapIs w b ents) : b < w.heap.size := let ⟨_, _, h, _⟩ := h; lt_of_blk h
theorem r_len_map {x : Operand} {z : Value} {b : Nat} {ents : List (Int × Value)} (hT : MapOf P T z) (hx : ρ x = .map (some b)) (hb : MapIs w b ents) :
    (execOp ρ ⟨d, .call { callee := .builtin .len, args := #[x], argTypes := #[T] }, ty, pos, af, g⟩).run P w = .ok (.value (.int .i64 ents.length)) w := by
  obtain ⟨K, E, h1, h2, h3⟩ := hT.desc
  obtain ⟨es, clock, hb, he⟩ := hb
  have hlen : es.size = ents.length := by have := congrArg List.length he; simpa using this
  have hg : (getObj b).run P w = .ok (.map es clock) w := by simp [getObj, Sem.run, hb]
  simp [execOp, resolve, invoke, builtin, Builtin.len_, hx, underlying, h1, hg, goInt, hlen]
end
end Go.WX

namespace Go.WX
open Go.RowKit
/-- The block of a slice value. -/
def ob : Value → List Nat | .slice (some a) _ _ => [a.block] | _ => []
theorem ob_row {v : Value} {k : Nat} : k ∈ ob v ↔ v.ownBlock = some k := by
  cases v with
  | slice a l c => cases a with
    | none => simp [ob, Value.ownBlock]
    | some a => simp [ob, Value.ownBlock]; exact eq_comm
  | _ => simp [ob, Value.ownBlock]
/-- A slice whose array is the function's own (its block is written on by append). -/
def OwnSl {α : Type} (R : Rep α) (E : TypeId) (w : World) (M : List Nat) (v : Value) (l : List α) : Prop :=
  ∃ xs, w.ownsRow 0 E R.sz v l.length xs ∧ (∀ k ∈ ob v, k ∉ M) ∧ ∀ i (h : i < l.length), R.rd w (ob v ++ M) ((xs.drop (i * R.sz)).take R.sz) l[i]
theorem OwnSl.nil {α : Type} {R : Rep α} {E : TypeId} {w : World} {M : List Nat} : OwnSl R E w M (.slice none 0 0) ([] : List α) :=
  ⟨[], World.ownsRow_nil _ _ _ _, fun k hk => by simp [ob] at hk, fun i h => absurd h (Nat.not_lt_zero _)⟩
theorem OwnSl.lt {α : Type} {R : Rep α} {E : TypeId} {w : World} {M : List Nat} {v : Value} {l : List α} (h : OwnSl R E w M v l) : ∀ k ∈ ob v, k < w.heap.size := by
  obtain ⟨xs, h1, _⟩ := h
  intro k hk
  exact (h1.lt k (ob_row.1 hk)).2
theorem OwnSl.go {α : Type} {R : Rep α} {E : TypeId} {w w' : World} {M M' : List Nat} {v : Value} {l : List α} (h : OwnSl R E w M v l) (hk : Keep M w w') (hm : ∀ b ∈ M', b < w.heap.size → b ∈ M) : OwnSl R E w' M' v l := by
  have hlt := h.lt
  obtain ⟨xs, h1, h2, h3⟩ := h
  refine ⟨xs, ?_, fun k hk' hm' => h2 k hk' (hm k hm' (hlt k hk')), fun i hi => R.go (h3 i hi) (hk.weaken (fun x hx _ => List.mem_append_right _ hx)) (fun b hb hl => ?_)⟩
  · refine ⟨h1.1, ?_⟩
    rcases h1.2 with h | ⟨g, cap, cur, rfl, e1, e2, e3⟩
    · exact .inl h
    · exact .inr ⟨g, cap, cur, rfl, e1, hk.blk e2 (h2 g (by simp [ob])), e3⟩
  · rcases List.mem_append.1 hb with hb | hb
    · exact List.mem_append_left _ hb
    · exact List.mem_append_right _ (hm b hb hl)
theorem OwnSl.rd {α : Type} {R : Rep α} {E : TypeId} {w : World} {M : List Nat} {v : Value} {l : List α} (h : OwnSl R E w M v l) : rSliceRd R w M v l := by
  obtain ⟨xs, h1, h2, h3⟩ := h
  rcases h1.2 with ⟨rfl, hn⟩ | ⟨g, cap, cur, rfl, e1, e2, e3, e4, e5, e6⟩
  · have : l = [] := List.eq_nil_of_length_eq_zero hn
    subst this
    exact rSliceRd.nil
  · refine ⟨some ⟨g, 0, none⟩, cap, rfl, e3, e4, (fun h => by cases h), fun i hi => ⟨g, 0, cur, E, (0, 0), rfl, h2 g (by simp [ob]), e2, ?_⟩⟩
    have := R.go (h3 i hi) (Keep.refl _ _) (M' := M) (fun b hb _ => List.mem_append_right _ hb)
    rw [← e6, List.drop_take, List.take_take, Nat.min_eq_left ?_] at this
    · rw [Nat.zero_add]; exact this
    · have : (i + 1) * R.sz ≤ l.length * R.sz := Nat.mul_le_mul_right _ hi
      rw [Nat.add_mul] at this
      omega
structure ElemOf (P : Program) (T E : TypeId) (sz bytes : Nat) : Prop where
  desc : P.underlying T = some (.slice E)
  info : ∃ i z, P.info? E = some i ∧ i.zero = some z ∧ i.size = sz ∧ i.bytes = bytes ∧ z.cells.size = sz
/-- The cells of a slice that is read, as one row. -/
theorem rSliceRd.row {α : Type} {R : Rep α} {w : World} {M : List Nat} {v : Value} {l : List α} (h : rSliceRd R w M v l) :
    (v = .slice none 0 0 ∧ l = []) ∨ ∃ (a : Addr) (cap : Nat) (news : List Value), v = .slice (some a) l.length cap ∧ news.length = l.length * R.sz ∧ (∀ j u, news[j]? = some u → w.cell? (a.add j) = some u) ∧ (∀ u ∈ news, u.oneCell' = true) ∧
      ∀ i (h : i < l.length), R.rd w M ((news.drop (i * R.sz)).take R.sz) l[i] := by
  obtain ⟨a, cap, rfl, h1, h2, h3, h4⟩ := h
  cases a with
  | none =>
    have hc := h3 rfl
    subst hc
    have hl : l = [] := List.eq_nil_of_length_eq_zero (by omega)
    subst hl
    exact .inl ⟨rfl, rfl⟩
  | some a =>
    right
    by_cases hl : l.length = 0
    · have : l = [] := List.eq_nil_of_length_eq_zero hl
      subst this
      exact ⟨a, cap, [], rfl, by simp, fun j u h => by simp at h, fun u h => by simp at h, fun i h => absurd h (Nat.not_lt_zero _)⟩
    · obtain ⟨b, o, cells, E, fz, e1, e2, e3, e4⟩ := h4 0 (by omega)
      cases e1
      have all : ∀ i (hi : i < l.length), R.rd w M ((cells.toList.drop (o + i * R.sz)).take R.sz) l[i] := by
        intro i hi
        obtain ⟨b', o', cells', E', fz', e1, _, e3', e4'⟩ := h4 i hi
        cases e1
        rw [e3] at e3'
        cases e3'
        exact e4'
      have hlast := R.len (all (l.length - 1) (by omega))
      simp only [List.length_take, List.length_drop, Array.length_toList] at hlast
      have hpos := R.pos
      have hfit : o + l.length * R.sz ≤ cells.size := by
        have h5 : l.length * R.sz = (l.length - 1) * R.sz + R.sz := by
          conv => lhs; rw [show l.length = (l.length - 1) + 1 by omega]
          rw [Nat.add_mul, Nat.one_mul]
        omega
      refine ⟨⟨b, o, none⟩, cap, (cells.toList.drop o).take (l.length * R.sz), rfl, ?_, ?_, ?_, ?_⟩
      · simp only [List.length_take, List.length_drop, Array.length_toList]; omega
      · intro j u hu
        rw [List.getElem?_take] at hu
        split at hu
        · rw [List.getElem?_drop] at hu
          have ha : (⟨b, o, none⟩ : Addr).add j = ⟨b, o + j, none⟩ := by unfold Addr.add; split <;> simp_all
          rw [ha]
          simpa [World.cell?, e3] using hu
        · cases hu
      · intro u hu
        obtain ⟨j, hj⟩ := List.getElem?_of_mem hu
        rw [List.getElem?_take] at hj
        split at hj
        · next hlt =>
          rw [List.getElem?_drop] at hj
          have hi : j / R.sz < l.length := Nat.div_lt_of_lt_mul (by rw [Nat.mul_comm]; exact hlt)
          refine R.one (all (j / R.sz) hi) u ?_
          refine List.mem_of_getElem? (i := j % R.sz) ?_
          rw [List.getElem?_take, if_pos (Nat.mod_lt _ hpos), List.getElem?_drop]
          rw [show o + j / R.sz * R.sz + j % R.sz = o + j by rw [Nat.add_assoc, Nat.div_add_mod' j R.sz]]
          exact hj
        · cases hj
      · intro i hi
        rw [List.drop_take, List.take_take, List.drop_drop, Nat.min_eq_left]
        · exact all i hi
        · have : (i + 1) * R.sz ≤ l.length * R.sz := Nat.mul_le_mul_right _ hi
          rw [Nat.add_mul] at this
          omega
section
variable {P : Program} {ops : Array Oper} {Q : Exit → Act → World → Prop} {n : Nat} {env : Nat → Value} {w w' : World} {rest : List Oper}
  {d : Option Nat} {op : Op} {ty : TypeId} {pos : String} {af : Array Edge} {v : Value} {g : Option (Nat × Bool)} {T : TypeId} {ρ : Operand → Value}
theorem keep_of_grownBy (h : w.grownBy w' v.ownBlock) : Keep (ob v) w w' :=
  ⟨h.os, h.tape, h.output, h.size, fun b hb hl => h.block b hl (fun e => hb (ob_row.2 e.symm))⟩
theorem r_append_none {x y : Operand} {E : TypeId} {sz bytes : Nat} {a : Option Addr} {l c : Nat} (hT : ElemOf P T E sz bytes) (hx : ρ x = .slice a l c) (hl : l ≤ c) (hy : ρ y = .slice none 0 0) :
    (execOp ρ ⟨d, .call { callee := .builtin .append, args := #[x, y], argTypes := #[T, T] }, ty, pos, af, g⟩).run P w = .ok (.value (.slice a l c)) w := by
  obtain ⟨i, z, hi, hz, hs, _, _⟩ := hT.info
  cases a <;> simp [execOp, resolve, invoke, builtin, hx, hy, Builtin.append_, underlying, hT.desc, sizeOf, typeInfo, hi, Builtin.lenOf, hl, Builtin.firstCells, storeCells]
/-- append onto a slice of one's own, of whatever slice is read. -/
def LtM (M : List Nat) (w : World) : Prop := ∀ x ∈ M, x < w.heap.size
theorem wl_append {α : Type} {R : Rep α} {x y : Operand} {E : TypeId} {sz bytes : Nat} {M : List Nat} {u : Value} {l m : List α} (hT : ElemOf P T E sz bytes) (hs : R.sz = sz) (hx : ev n env x = v) (hv : OwnSl R E w M v l) (hy : ev n env y = u) (hu : rSliceRd R w (ob v ++ M) u m)
    (hL : LtM M w) (hb : (l.length + m.length) * bytes ≤ 140737488355328) (hm : l.length + m.length ≤ 9223372036854775807)
    (h : ∀ v' w', OwnSl R E w' M v' (l ++ m) → Keep (ob v) w w' → (∀ b ∈ ob v', b < w.heap.size → b ∈ ob v) → WL P ops Q rest n (updo env d v') w') :
    WL P ops Q (⟨d, .call { callee := .builtin .append, args := #[x, y], argTypes := #[T, T] }, ty, pos, af, none⟩ :: rest) n env w := by
  subst hs
  have hv0 := hv
  obtain ⟨xs, h1, h2, h3⟩ := hv
  rcases hu.row with ⟨rfl, rfl⟩ | ⟨ad, c, news, rfl, n1, n2, n3, n4⟩
  · have hw : (execOp (ev n env) ⟨d, .call { callee := .builtin .append, args := #[x, y], argTypes := #[T, T] }, ty, pos, af, none⟩).run P w = .ok (.value v) w := by
      rcases h1.2 with ⟨rfl, hn⟩ | ⟨gg, cap, cur, rfl, _, _, hc, _⟩
      · exact r_append_none hT hx (Nat.le_refl _) hy
      · exact r_append_none hT hx hc hy
    exact wl_ok hw (h v w (by simpa using hv0) (Keep.refl _ _) (fun _ hb _ => hb))
  · obtain ⟨i, z, hi, hz, hs, hby, hzs⟩ := hT.info
    obtain ⟨v', w', hr, hown, hg, _⟩ := run_append_own (P := P) w 0 T ty E i z R.sz bytes hT.desc hi hz hs hby hzs R.pos v l.length xs h1 ad m.length c news n1 n2 n3 (by unfold maxLen; omega) hb (Nat.zero_le _)
    have hk := keep_of_grownBy hg
    have hnew : ∀ b ∈ ob v', b < w.heap.size → b ∈ ob v := by
      rcases h1.2 with ⟨rfl, hn⟩ | ⟨gg, cap, cur, rfl, _, hgg, hc, hcm, hcs, htake⟩
      · by_cases hm0 : m.length = 0
        · have hnews : news = [] := List.eq_nil_of_length_eq_zero (by rw [n1, hm0]; simp)
          subst hnews
          have hr2 : (Builtin.append_ #[T, T] ty #[.slice none 0 0, .slice (some ad) m.length c]).run P w = .ok (.slice none 0 0) w := by
            simp [Builtin.append_, underlying, hT.desc, sizeOf, typeInfo, hi, Builtin.lenOf, hm0, Builtin.firstCells, loadCells, loadCellsFrom]
          rw [hr2] at hr
          cases hr
          exact fun b hb _ => hb
        · have hr2 := run_append_nil (P := P) w T ty E i z hT.desc hi hz ad m.length c news (by rw [hs]; exact n1) n2 (by omega) (by omega) (by rw [hby]; have := hb; rw [Nat.add_mul] at this; omega)
          rw [hr2] at hr
          cases hr
          intro b hb hl
          simp [ob] at hb
          omega
      · by_cases hroom : l.length + m.length ≤ cap
        · have hfit : l.length * i.size + news.length ≤ cur.size := by rw [n1, hs, hcs, ← Nat.add_mul]; exact Nat.mul_le_mul_right _ hroom
          have hr2 := run_append_room (P := P) w T ty E i hT.desc hi gg l.length cap cur hgg ad m.length c news (by rw [hs]; exact n1) n2 n3 hroom hfit
          rw [hr2] at hr
          cases hr
          exact fun b hb _ => hb
        · have holds : ∀ j u, xs[j]? = some u → w.cell? ((⟨gg, 0, none⟩ : Addr).add j) = some u := h1.cells (g := gg) rfl
          have hr2 := run_append_grow (P := P) w T ty E i z hT.desc hi hz ⟨gg, 0, none⟩ l.length cap xs (by rw [hs]; exact h1.1) holds ad m.length c news (by rw [hs]; exact n1) n2 (by omega) (by omega) (growslice_fits (by omega) (by rw [hby]; exact hb))
          rw [hr2] at hr
          cases hr
          intro b hb hl
          simp [ob] at hb
          omega
    have hlt := hv0.lt
    have hrun : (execOp (ev n env) ⟨d, .call { callee := .builtin .append, args := #[x, y], argTypes := #[T, T] }, ty, pos, af, none⟩).run P w = .ok (.value v') w' := by
      simp only [execOp, resolve, invoke, builtin, Sem.run_bind, Sem.run_pure, Result.andThen_ok, List.map_toArray, List.map_cons, List.map_nil, hx, hy, hr]
    refine wl_ok hrun (h v' w' ⟨xs ++ news, by rw [List.length_append]; exact hown, ?_, ?_⟩ hk hnew)
    · intro k hk' hm'
      exact h2 k (hnew k hk' (hL k hm')) hm'
    · have hm2 : ∀ b ∈ ob v' ++ M, b < w.heap.size → b ∈ ob v ++ M := by
        intro b hb hl
        rcases List.mem_append.1 hb with hb | hb
        · exact List.mem_append_left _ (hnew b hb hl)
        · exact List.mem_append_right _ hb
      have hk2 : Keep (ob v ++ M) w w' := hk.weaken (fun x hx _ => List.mem_append_left _ hx)
      intro i hi'
      have hxl := h1.1
      by_cases hil : i < l.length
      · have h5 := R.go (h3 i hil) hk2 hm2
        have hle : (i + 1) * R.sz ≤ l.length * R.sz := Nat.mul_le_mul_right _ hil
        rw [Nat.add_mul] at hle
        rw [List.getElem_append_left hil, List.drop_append_of_le_length (by omega), List.take_append_of_le_length (by rw [List.length_drop]; omega)]
        exact h5
      · rw [List.length_append] at hi'
        have h5 := R.go (n4 (i - l.length) (by omega)) hk2 hm2
        rw [List.getElem_append_right (by omega), List.drop_append, List.drop_eq_nil_of_le (by rw [hxl]; exact Nat.mul_le_mul_right _ (by omega)), List.nil_append, hxl, ← Nat.sub_mul]
        exact h5
end
end Go.WX

namespace Go.WX
open Go.RowKit
theorem fill_fold (c : List Value) : ∀ (cells : Array Value) (o : Nat), o + c.length ≤ cells.size →
    (c.zipIdx.foldl (fun cs (p : Value × Nat) => cs.setIfInBounds (o + p.2) p.1) cells).toList = spl cells.toList o c := by
  suffices H : ∀ (k : Nat) (cells : Array Value) (o : Nat), o + k + c.length ≤ cells.size →
      ((c.zipIdx k).foldl (fun cs (p : Value × Nat) => cs.setIfInBounds (o + p.2) p.1) cells).toList = spl cells.toList (o + k) c by
    intro cells o h
    have := H 0 cells o (by simpa using h)
    simpa using this
  induction c with
  | nil => intro k cells o h; simp [spl]
  | cons x r ih =>
    intro k cells o h
    simp only [List.length_cons] at h
    rw [List.zipIdx_cons, List.foldl_cons, ih (k + 1) _ o (by simp; omega)]
    simp only [Array.toList_setIfInBounds, spl]
    rw [show o + (k + 1) = o + k + 1 by omega]
    apply List.ext_getElem?
    intro i
    simp only [List.append_assoc, List.getElem?_append, List.length_take, List.length_set, Array.length_toList, List.getElem?_take, List.getElem?_set, List.getElem?_drop, List.length_cons, List.getElem?_cons]
    grind
/-- build's rows: parts of a size each, in order. -/
theorem fill_parts {sz : Nat} (hz : 0 < sz) : ∀ (vs : List Value) (k : Nat) (cells : Array Value), (∀ v ∈ vs, v.cells.size = sz) → (k + vs.length) * sz ≤ cells.size →
    ∃ out, Instr.fill (fun i => some (i * sz, sz)) cells ((vs.zipIdx k).map fun p => (p.2, p.1)) = some out ∧ out.toList = spl cells.toList (k * sz) (vs.map fun v => v.cells.toList).flatten
  | [], k, cells, _, _ => ⟨cells, rfl, by simp [spl]⟩
  | v :: r, k, cells, hv, hs => by
    have h1 : v.cells.size = sz := hv v (by simp)
    simp only [List.length_cons] at hs
    have hs2 : (k + 1 + r.length) * sz ≤ cells.size := by rw [show k + 1 + r.length = k + (r.length + 1) by omega]; exact hs
    have hk : k * sz + sz ≤ cells.size := by
      have : (k + 1) * sz ≤ (k + 1 + r.length) * sz := Nat.mul_le_mul_right _ (by omega)
      rw [Nat.add_mul, Nat.one_mul] at this
      omega
    have hf := fill_fold v.cells.toList cells (k * sz) (by rw [Array.length_toList, h1]; exact hk)
    let c2 := v.cells.zipIdx.foldl (fun cs (p : Value × Nat) => cs.setIfInBounds (k * sz + p.2) p.1) cells
    have hc2 : c2.toList = spl cells.toList (k * sz) v.cells.toList := by
      rw [← hf]
      show (v.cells.zipIdx.foldl _ cells).toList = _
      rw [← Array.foldl_toList, Array.toList_zipIdx]
    have hl2 : c2.size = cells.size := by
      have := congrArg List.length hc2
      simp only [spl, List.length_append, List.length_take, List.length_drop, Array.length_toList] at this
      omega
    obtain ⟨out, ho1, ho2⟩ := fill_parts hz r (k + 1) c2 (fun x hx => hv x (by simp [hx])) (by rw [hl2]; exact hs2)
    refine ⟨out, ?_, ?_⟩
    · rw [List.zipIdx_cons, List.map_cons]
      unfold Instr.fill
      simp only [h1, ne_eq, not_true_eq_false, decide_false, Bool.false_or]
      rw [if_neg (by simp; omega)]
      exact ho1
    · rw [ho2, hc2]
      simp only [List.map_cons, List.flatten_cons, spl]
      rw [show (k + 1) * sz = k * sz + sz by rw [Nat.add_mul, Nat.one_mul]]
      have h3 : v.cells.toList.length = sz := by rw [Array.length_toList, h1]
      generalize v.cells.toList = c at *
      generalize (r.map fun v => v.cells.toList).flatten = q
      apply List.ext_getElem?
      intro i
      simp only [List.append_assoc, List.getElem?_append, List.length_take, Array.length_toList, List.length_append, List.getElem?_take, List.getElem?_drop, List.length_drop]
      grind
def RdAll {α : Type} (R : Rep α) (w : World) (M : List Nat) : List Value → List α → Prop
  | [], [] => True
  | v :: vs, x :: xs => R.rd w M v.cells.toList x ∧ RdAll R w M vs xs
  | _, _ => False
theorem RdAll.len {α : Type} {R : Rep α} {w : World} {M : List Nat} : ∀ {vs : List Value} {xs : List α}, RdAll R w M vs xs → vs.length = xs.length
  | [], [], _ => rfl
  | v :: vs, x :: xs, h => by simp [RdAll.len h.2]
  | [], _ :: _, h => h.elim
  | _ :: _, [], h => h.elim
theorem RdAll.sizes {α : Type} {R : Rep α} {w : World} {M : List Nat} : ∀ {vs : List Value} {xs : List α}, RdAll R w M vs xs → ∀ v ∈ vs, v.cells.size = R.sz
  | [], [], _ => by simp
  | v :: vs, x :: xs, h => by
    intro u hu
    rcases List.mem_cons.1 hu with rfl | hu
    · have := R.len h.1; simpa using this
    · exact RdAll.sizes h.2 u hu
  | [], _ :: _, h => h.elim
  | _ :: _, [], h => h.elim
theorem flat_len {sz : Nat} : ∀ {vs : List Value}, (∀ v ∈ vs, v.cells.size = sz) → (vs.map fun v => v.cells.toList).flatten.length = vs.length * sz
  | [], _ => by simp
  | v :: r, h => by
    have h1 := h v (by simp)
    have h2 := flat_len (fun u hu => h u (List.mem_cons_of_mem _ hu))
    simp only [List.map_cons, List.flatten_cons, List.length_append, h2, Array.length_toList, h1, List.length_cons, Nat.add_mul]
    omega
theorem RdAll.at {α : Type} {R : Rep α} {w : World} {M : List Nat} : ∀ {vs : List Value} {xs : List α}, RdAll R w M vs xs → ∀ i (h : i < xs.length), R.rd w M (((vs.map fun v => v.cells.toList).flatten.drop (i * R.sz)).take R.sz) xs[i]
  | [], [], _, i, h => absurd h (Nat.not_lt_zero _)
  | v :: vs, x :: xs, h, i, hi => by
    have h1 : v.cells.toList.length = R.sz := R.len h.1
    cases i with
    | zero =>
      simp only [List.map_cons, List.flatten_cons, Nat.zero_mul, List.drop_zero, List.getElem_cons_zero]
      rw [List.take_append_of_le_length (by omega), List.take_of_length_le (by omega)]
      exact h.1
    | succ i =>
      have := RdAll.at h.2 i (by simpa using hi)
      simp only [List.map_cons, List.flatten_cons, List.getElem_cons_succ]
      rw [List.drop_append, List.drop_eq_nil_of_le (by rw [h1, Nat.add_mul]; omega), List.nil_append, h1, show (i + 1) * R.sz - R.sz = i * R.sz by rw [Nat.add_mul]; omega]
      exact this
  | [], _ :: _, h, _, _ => h.elim
  | _ :: _, [], h, _, _ => h.elim
section
variable {P : Program} {ops : Array Oper} {Q : Exit → Act → World → Prop} {n : Nat} {env : Nat → Value} {w w' : World} {rest : List Oper}
  {d : Option Nat} {op : Op} {ty : TypeId} {pos : String} {af : Array Edge} {v : Value} {g : Option (Nat × Bool)} {T : TypeId} {ρ : Operand → Value}
theorem wl_buildSlice {α : Type} {R : Rep α} {E : TypeId} {sz bytes : Nat} {M : List Nat} {parts : Array (Nat × Operand)} {len : Nat} {vs : List Value} {xs : List α} (hT : ElemOf P T E sz bytes) (hs : R.sz = sz)
    (hx : (parts.toList.map fun p => (p.1, ev n env p.2)) = vs.zipIdx.map fun p => (p.2, p.1)) (hlen : vs.length = len) (hr : RdAll R w M vs xs) (hL : LtM M w) (hsm : len * sz ≤ 16777216)
    (h : ∀ w' u, Grow w w' → OwnSl R E w' M u xs → (∀ b ∈ ob u, w.heap.size = b) → WL P ops Q rest n (updo env d u) w') :
    WL P ops Q (⟨d, .buildSlice T len parts, ty, pos, af, none⟩ :: rest) n env w := by
  subst hs
  subst hlen
  obtain ⟨i, z, hi, hz, hsz, hby, hzs⟩ := hT.info
  have hsizes := hr.sizes
  have hlx := hr.len
  let zero : Array Value := if vs.length * R.sz = 0 then #[] else z.cells
  let base : Array Value := (Array.range (vs.length * R.sz)).map (zero[· % zero.size]!)
  have hbase : base.size = vs.length * R.sz := by simp [base]
  obtain ⟨out, ho1, ho2⟩ := fill_parts R.pos vs 0 base hsizes (by rw [hbase]; simp)
  have hflat := flat_len hsizes
  have ho3 : out.toList = (vs.map fun v => v.cells.toList).flatten := by
    rw [ho2, Nat.zero_mul]
    simp only [spl, List.take_zero, List.nil_append, Nat.zero_add]
    rw [List.drop_eq_nil_of_le (by rw [Array.length_toList, hbase, hflat]; omega), List.append_nil]
  have hos : out.size = vs.length * R.sz := by rw [← Array.length_toList, ho3, hflat]
  have hx2 : (parts.map fun p => (p.1, ev n env p.2)).toList = vs.zipIdx.map fun p => (p.2, p.1) := by simpa using hx
  have hrun : (execOp (ev n env) ⟨d, .buildSlice T vs.length parts, ty, pos, af, none⟩).run P w = .ok (.value (.slice (some ⟨w.heap.size, 0, none⟩) vs.length vs.length)) (w.alloc (.cells out E)) := by
    simp only [execOp, Instr.buildSlice, underlying, sizeOf, typeInfo]
    have hns : ¬ (vs.length * R.sz > 2 ^ 24) := by omega
    by_cases h0 : vs.length * R.sz = 0
    · simp only [Sem.run_bind, run_program, Result.andThen_ok, hT.desc, Sem.run_pure, hi, hsz, Sem.run_ite, h0, if_true]
      have : out = #[] := Array.eq_empty_of_size_eq_zero (by rw [hos, h0])
      have e1 : Instr.fill (fun i => some (i * R.sz, R.sz)) ((Array.range 0).map (fun x => (#[] : Array Value)[x % (#[] : Array Value).size]!)) (parts.map fun p => (p.1, ev n env p.2)).toList = some out := by
        rw [hx2]
        have : base = (Array.range 0).map (fun x => (#[] : Array Value)[x % (#[] : Array Value).size]!) := by simp [base, h0]
        rw [← this]; exact ho1
      rw [e1]
      simp [newRow, World.alloc, -World.alloc_eq]
    · simp only [Sem.run_bind, run_program, Result.andThen_ok, hT.desc, Sem.run_pure, hi, hsz, Sem.run_ite, if_neg hns, h0, if_false, zeroValue, typeInfo, hz]
      have e1 : Instr.fill (fun i => some (i * R.sz, R.sz)) ((Array.range (vs.length * R.sz)).map (fun x => z.cells[x % z.cells.size]!)) (parts.map fun p => (p.1, ev n env p.2)).toList = some out := by
        rw [hx2]
        have : base = (Array.range (vs.length * R.sz)).map (fun x => z.cells[x % z.cells.size]!) := by simp [base, zero, h0]
        rw [← this]; exact ho1
      rw [e1]
      simp [newRow, World.alloc, -World.alloc_eq]
  refine wl_ok hrun (h _ _ (Grow.alloc _ _) ⟨out.toList, ⟨by rw [Array.length_toList, hos, hlx], .inr ⟨w.heap.size, vs.length, out, by rw [hlx], Nat.zero_le _, alloc_blk _ _, by omega, ?_, hos, ?_⟩⟩, ?_, ?_⟩ ?_)
  · unfold maxLen
    have : vs.length ≤ vs.length * R.sz := Nat.le_mul_of_pos_right _ R.pos
    omega
  · rw [List.take_of_length_le]; rw [Array.length_toList, hos, hlx]; exact Nat.le_refl _
  · intro k hk hm
    simp [ob] at hk
    have := hL k hm
    omega
  · intro i hi'
    have h5 := R.go (hr.at i hi') ((Grow.alloc w (.cells out E)).weaken (N := M) (fun x hx => absurd hx List.not_mem_nil)) (M' := ob (.slice (some ⟨w.heap.size, 0, none⟩) vs.length vs.length) ++ M) (fun b hb hl => by
      rcases List.mem_append.1 hb with hb | hb
      · simp [ob] at hb; omega
      · exact hb)
    rw [ho3]
    exact h5
  · intro b hb; simp [ob] at hb; exact hb.symm
end
end Go.WX

namespace Go.WX
open Go.RowKit
theorem elem_of {P : Program} {E : TypeId} {z : Value} {s b : Nat} (h : (P.info? E).map (fun i => (i.zero, i.size, i.bytes)) = some (some z, s, b)) (hz : z.cells.size = s) : ∃ i z, P.info? E = some i ∧ i.zero = some z ∧ i.size = s ∧ i.bytes = b ∧ z.cells.size = s := by
  cases hi : P.info? E with
  | none => simp [hi] at h
  | some i => simp [hi] at h; exact ⟨i, z, rfl, h.1, h.2.1, h.2.2, hz⟩
theorem LtM.grow {M : List Nat} {N : List Nat} {w w' : World} (h : LtM M w) (hk : Keep N w w') : LtM M w' := fun x hx => Nat.lt_of_lt_of_le (h x hx) hk.size
theorem LtM.cons {M : List Nat} {w : World} {b : Nat} (h : LtM M w) (hb : b < w.heap.size) : LtM (b :: M) w := fun x hx => by
  rcases List.mem_cons.1 hx with rfl | hx
  · exact hb
  · exact h x hx
theorem LtM.own {α : Type} {R : Rep α} {E : TypeId} {w : World} {M M' : List Nat} {v : Value} {l : List α} (h : LtM M w) (ho : OwnSl R E w M' v l) : LtM (ob v ++ M) w := fun x hx => by
  rcases List.mem_append.1 hx with hx | hx
  · exact ho.lt x hx
  · exact h x hx
theorem OwnSl.apart {α : Type} {R : Rep α} {E : TypeId} {w : World} {M : List Nat} {v : Value} {l : List α} (h : OwnSl R E w M v l) : ∀ k ∈ ob v, k ∉ M := let ⟨_, _, h, _⟩ := h; h
theorem fresh_nil {s : Nat} : ∀ x ∈ ob (.slice none 0 0), s ≤ x := fun x hx => by simp [ob] at hx
theorem fresh_new {s : Nat} {w0 w : World} {u : Value} (h : w0.heap.size ≤ w.heap.size) (hs : s = w0.heap.size) (hu : ∀ b ∈ ob u, w.heap.size = b) : ∀ x ∈ ob u, s ≤ x := fun x hx => by have := hu x hx; omega
theorem fresh_app {s : Nat} {w : World} {v v' : Value} (h : ∀ x ∈ ob v, s ≤ x) (hs : s ≤ w.heap.size) (hn : ∀ b ∈ ob v', b < w.heap.size → b ∈ ob v) : ∀ x ∈ ob v', s ≤ x := fun x hx => by
  rcases Nat.lt_or_ge x w.heap.size with hl | hl
  · exact h x (hn x hx hl)
  · omega
theorem Keep.stepF {a b c : World} {N : List Nat} (h : Grow a b) (k : Keep N b c) (hN : ∀ x ∈ N, a.heap.size ≤ x) : Grow a c := h.step k (fun x hx hl => by have := hN x hx; omega)
theorem mem_mid {A A' M : List Nat} {s : Nat} (pre : List Nat) (h : ∀ b ∈ A', b < s → b ∈ A) : ∀ x ∈ pre ++ (A' ++ M), x < s → x ∈ pre ++ (A ++ M) := by
  intro x hx hl
  rcases List.mem_append.1 hx with hx | hx
  · exact List.mem_append_left _ hx
  · rcases List.mem_append.1 hx with hx | hx
    · exact List.mem_append_right _ (List.mem_append_left _ (h x hx hl))
    · exact List.mem_append_right _ (List.mem_append_right _ hx)
theorem mem_rot {A M : List Nat} (pre : List Nat) {x : Nat} (h : x ∈ A ++ (pre ++ M)) : x ∈ pre ++ (A ++ M) := by
  simp only [List.mem_append] at h ⊢
  rcases h with h | h | h
  · exact .inr (.inl h)
  · exact .inl h
  · exact .inr (.inr h)
theorem mem_ins (A : List Nat) {M : List Nat} (pre : List Nat) {x : Nat} (h : x ∈ pre ++ M) : x ∈ pre ++ (A ++ M) := by
  simp only [List.mem_append] at h ⊢
  rcases h with h | h
  · exact .inl h
  · exact .inr (.inr h)
theorem LtM.swap {A A' M : List Nat} {w : World} (pre : List Nat) (h : LtM (pre ++ (A ++ M)) w) (h2 : ∀ k ∈ A', k < w.heap.size) : LtM (pre ++ (A' ++ M)) w := by
  intro x hx
  simp only [List.mem_append] at hx
  rcases hx with hx | hx | hx
  · exact h x (List.mem_append_left _ hx)
  · exact h2 x hx
  · exact h x (List.mem_append_right _ (List.mem_append_right _ hx))
theorem mem_newO {A M : List Nat} {s : Nat} (h : ∀ b ∈ A, s ≤ b) : ∀ x ∈ A ++ M, x < s → x ∈ M := by
  intro x hx hl
  rcases List.mem_append.1 hx with hx | hx
  · have := h x hx; omega
  · exact hx
theorem not_mem_take {o : List Int} {k : Nat} {x : Int} (hn : o.Nodup) (hx : o[k]? = some x) : ¬ x ∈ o.take k := by
  intro hm
  rw [← List.take_append_drop k o, drop_some hx, List.nodup_append] at hn
  exact hn.2.2 x hm x (by simp) rfl
theorem take_snoc {α : Type} {o : List α} {k : Nat} {x : α} (hx : o[k]? = some x) : o.take (k + 1) = o.take k ++ [x] := by
  rw [List.take_add_one, hx]; rfl
/-- A set of ints as a map to bool. -/
def setE (l : List Int) : List (Int × Value) := l.map fun k => (k, Value.bool true)
theorem aget_set (l : List Int) (k : Int) : aget (.bool false) (setE l) k = .bool (decide (k ∈ l)) := by
  induction l with
  | nil => rfl
  | cons a r ih =>
    show aget _ ((a, Value.bool true) :: setE r) k = _
    unfold aget
    by_cases h : k = a
    · simp [h]
    · simp only [h, if_false, ih]; simp [h]
def ins (l : List Int) (k : Int) : List Int := if k ∈ l then l else l ++ [k]
theorem aset_set (l : List Int) (k : Int) : aset (setE l) k (.bool true) = setE (ins l k) := by
  induction l with
  | nil => simp [setE, ins, aset]
  | cons a r ih =>
    show aset ((a, Value.bool true) :: setE r) k _ = _
    unfold aset
    by_cases h : k = a
    · simp [h, ins, setE]
    · simp only [h, if_false, ih]
      unfold ins
      by_cases hr : k ∈ r
      · simp [hr, setE]
      · simp [hr, h, setE]
theorem ins_new {l : List Int} {k : Int} (h : ¬ k ∈ l) : ins l k = l ++ [k] := by simp [ins, h]
theorem ins_old {l : List Int} {k : Int} (h : k ∈ l) : ins l k = l := by simp [ins, h]
section
variable {P : Program} {ops : Array Oper} {Q : Exit → Act → World → Prop} {n : Nat} {env : Nat → Value} {w w' : World} {rest : List Oper}
  {d : Option Nat} {op : Op} {ty : TypeId} {pos : String} {af : Array Edge} {v : Value} {g : Option (Nat × Bool)} {T : TypeId} {ρ : Operand → Value}
theorem wl_lookupS {x y : Operand} {b : Nat} {k : Int} {l : List Int} (hT : MapOf P T (.bool false)) (hx : ev n env x = .map (some b)) (hy : ev n env y = .int .i64 k) (hb : MapIs w b (setE l)) (h : WL P ops Q rest n (updo env d (.bool (decide (k ∈ l)))) w) :
    WL P ops Q (⟨d, .lookup T x y false, ty, pos, af, none⟩ :: rest) n env w := wl_lookup hT hx hy hb (aget_set l k) h
theorem wl_mapUpdateS {x y u : Operand} {b : Nat} {k : Int} {l : List Int} (hT : MapOf P T (.bool false)) (hx : ev n env x = .map (some b)) (hy : ev n env y = .int .i64 k) (hu : ev n env u = .bool true) (hb : MapIs w b (setE l))
    (h : ∀ w', Keep [b] w w' → MapIs w' b (setE (ins l k)) → WL P ops Q rest n (updo env d undef) w') :
    WL P ops Q (⟨d, .mapUpdate T x y u, ty, pos, af, none⟩ :: rest) n env w := wl_mapUpdate hT hx hy hu hb (fun w' hk hm => h w' hk (by rw [← aset_set]; exact hm))
theorem r_notd {x : Operand} {T : TypeId} {p : Prop} [Decidable p] (hx : ρ x = .bool (decide p)) : (execOp ρ ⟨d, .unOp .not T x, ty, pos, af, g⟩).run P w = .ok (.value (.bool (decide (¬ p)))) w := by
  rw [r_not hx, decide_not]
theorem r_len_mapS {x : Operand} {b : Nat} {l : List Int} (hT : MapOf P T (.bool false)) (hx : ρ x = .map (some b)) (hb : MapIs w b (setE l)) :
    (execOp ρ ⟨d, .call { callee := .builtin .len, args := #[x], argTypes := #[T] }, ty, pos, af, g⟩).run P w = .ok (.value (.int .i64 l.length)) w := by
  rw [r_len_map hT hx hb]; simp [setE]
theorem r_makeFunc {f : FuncId} {first captured : Array Operand} {c1 c2 : List Value} (h1 : first.toList.map ρ = c1) (h2 : captured.toList.map ρ = c2) :
    (execOp ρ ⟨d, .makeFunc (.func f) first captured, ty, pos, af, g⟩).run P w = .ok (.value (.func (.func f) c1.toArray c2.toArray)) w := by
  have e1 : first.map ρ = c1.toArray := by rw [← h1]; apply Array.ext'; simp
  have e2 : captured.map ρ = c2.toArray := by rw [← h2]; apply Array.ext'; simp
  simp [execOp, Instr.makeFunc, e1, e2]
theorem wl_callIn {x : Operand} {f : FuncId} {first captured : Array Value} {xs : Array Operand} {ts : Array TypeId} {args : List Value} (hf : FnOk P f) (hx : ev n env x = .func (.func f) first captured)
    (ha : first.toList ++ xs.toList.map (ev n env) ++ captured.toList = args) (hc : Calls P f args.toArray w (fun e w' => ∃ v, e = .returned v ∧ WL P ops Q rest n (updo env d v) w')) :
    WL P ops Q (⟨d, .call { callee := .value x, args := xs, argTypes := ts }, ty, pos, af, none⟩ :: rest) n env w :=
  wl_call hf hx ha hc (fun _ _ h => h)
end
end Go.WX

namespace Go.WX
/-! Plain laws of cells. -/
def cellCheck (k n cells : Int) : Int :=
  if k = 0 then (if n ≠ 0 then 4 else 0)
  else if k = 1 then (if n < -1000000000 then 3 else if 1000000000 < n then 3 else 0)
  else if k = 2 then (if n < 0 then 5 else if cells ≤ n then 5 else 0)
  else 4
def checkVals (n : Int) : List Val → Int
  | [] => 0
  | v :: r => if cellCheck v.kind v.n n ≠ 0 then cellCheck v.kind v.n n else checkVals n r
def checkRows (n : Int) : List (List Val) → Int
  | [] => 0
  | c :: r => if (c.length : Int) = 0 then 2 else if 4 < (c.length : Int) then 2 else if checkVals n c ≠ 0 then checkVals n c else checkRows n r
def checkAll (l : List (List Val)) : Int := if 24 < (l.length : Int) then 2 else checkRows l.length l
def meet1 (o : List Int) (v : Val) : List Int := if v.kind = 2 then (if v.n ∈ o then o else o ++ [v.n]) else o
def meetAll (o : List Int) : List Val → List Int
  | [] => o
  | v :: r => meetAll (meet1 o v) r
def reachGo : Nat → List (List Val) → List Int → Nat → List Int
  | 0, _, o, _ => o
  | f + 1, l, o, i => if i < o.length then reachGo f l (meetAll o (l.getD (o.getD i 0).toNat [])) (i + 1) else o
def reach (l : List (List Val)) (from_ : List Val) : List Int × Int :=
  if checkAll l ≠ 0 then ([], checkAll l) else if 400 < (from_.length : Int) then ([], 2) else if checkVals l.length from_ ≠ 0 then ([], checkVals l.length from_)
  else (reachGo l.length l (meetAll [] from_) 0, 0)
def GoodR (n : Int) (o : List Int) : Prop := o.Nodup ∧ ∀ x ∈ o, 0 ≤ x ∧ x < n
theorem good_nil {n : Int} : GoodR n [] := ⟨List.nodup_nil, fun x h => by cases h⟩
theorem good_app {n : Int} {o : List Int} {x : Int} (h : GoodR n o) (hx : ¬ x ∈ o) (hv : 0 ≤ x ∧ x < n) : GoodR n (o ++ [x]) := by
  refine ⟨?_, ?_⟩
  · rw [List.nodup_append]
    refine ⟨h.1, by simp, fun a ha b hb => ?_⟩
    simp at hb; subst hb
    exact fun e => hx (e ▸ ha)
  · intro y hy
    rcases List.mem_append.1 hy with hy | hy
    · exact h.2 y hy
    · simp at hy; subst hy; exact hv
theorem nodup_le (n : Nat) : ∀ (o : List Int), o.Nodup → (∀ x ∈ o, 0 ≤ x ∧ x < n) → o.length ≤ n := by
  induction n with
  | zero => intro o _ h; cases o with | nil => simp | cons a r => have := h a (by simp); omega
  | succ n ih =>
    intro o hn h
    have h1 := ih (o.erase (n : Int)) (hn.erase _) (fun x hx => by
      have h2 := (hn.mem_erase_iff).1 hx
      have := h x h2.2
      omega)
    have h3 : o.length ≤ (o.erase (n : Int)).length + 1 := by
      rw [List.length_erase]
      split <;> omega
    omega
theorem GoodR.le {n : Nat} {o : List Int} (h : GoodR n o) : o.length ≤ n := nodup_le n o h.1 h.2
theorem GoodR.get {n : Int} {o : List Int} {i : Nat} {x : Int} (h : GoodR n o) (hx : o[i]? = some x) : 0 ≤ x ∧ x < n := h.2 x (List.mem_of_getElem? hx)
theorem checkVals_at {n : Int} : ∀ {l : List Val} {k : Nat} {x : Val}, checkVals n l = 0 → l[k]? = some x → cellCheck x.kind x.n n = 0
  | [], k, x, _, h => by simp at h
  | v :: r, k, x, hc, h => by
    unfold checkVals at hc
    by_cases hv : cellCheck v.kind v.n n ≠ 0
    · rw [if_pos hv] at hc; exact absurd hc hv
    · rw [if_neg hv] at hc
      cases k with
      | zero => simp at h; subst h; exact Decidable.not_not.1 hv
      | succ k => exact checkVals_at hc (by simpa using h)
theorem cellCheck_ref {x : Val} {n : Int} (h : cellCheck x.kind x.n n = 0) (hk : x.kind = 2) : 0 ≤ x.n ∧ x.n < n := by
  unfold cellCheck at h
  rw [if_neg (by omega), if_neg (by omega), if_pos hk] at h
  by_cases h1 : x.n < 0
  · rw [if_pos h1] at h; omega
  · rw [if_neg h1] at h
    by_cases h2 : n ≤ x.n
    · rw [if_pos h2] at h; omega
    · omega
theorem valid_at {n : Int} {l : List Val} {k : Nat} {x : Val} (hc : checkVals n l = 0) (hx : l[k]? = some x) (hk : x.kind = 2) : 0 ≤ x.n ∧ x.n < n := cellCheck_ref (checkVals_at hc hx) hk
theorem checkRows_at {n : Int} : ∀ {l : List (List Val)} {k : Nat} {c : List Val}, checkRows n l = 0 → l[k]? = some c → checkVals n c = 0
  | [], k, x, _, h => by simp at h
  | v :: r, k, x, hc, h => by
    unfold checkRows at hc
    by_cases h1 : (v.length : Int) = 0
    · rw [if_pos h1] at hc; omega
    · rw [if_neg h1] at hc
      by_cases h2 : 4 < (v.length : Int)
      · rw [if_pos h2] at hc; omega
      · rw [if_neg h2] at hc
        by_cases hv : checkVals n v ≠ 0
        · rw [if_pos hv] at hc; exact absurd hc hv
        · rw [if_neg hv] at hc
          cases k with
          | zero => simp at h; subst h; exact Decidable.not_not.1 hv
          | succ k => exact checkRows_at hc (by simpa using h)
theorem checkAll_at {l : List (List Val)} {k : Nat} {c : List Val} (h : checkAll l = 0) (hc : l[k]? = some c) : checkVals l.length c = 0 := by
  unfold checkAll at h
  by_cases h1 : 24 < (l.length : Int)
  · rw [if_pos h1] at h; omega
  · rw [if_neg h1] at h; exact checkRows_at h hc
theorem checkAll_len {l : List (List Val)} (h : checkAll l = 0) : l.length ≤ 24 := by
  unfold checkAll at h
  by_cases h1 : 24 < (l.length : Int)
  · rw [if_pos h1] at h; omega
  · omega
theorem reachGo_done {f : Nat} {l : List (List Val)} {o : List Int} {i : Nat} (h : ¬ (i : Int) < (o.length : Nat)) : reachGo f l o i = o := by
  cases f with
  | zero => rfl
  | succ f => unfold reachGo; rw [if_neg (by omega)]
theorem reachGo_step {l : List (List Val)} {o : List Int} {i : Nat} {x : Int} {c : List Val} (hg : GoodR l.length o) (hi : (i : Int) < (o.length : Nat)) (hx : o[i]? = some x) (hc : l[x.toNat]? = some c) :
    reachGo (l.length - i) l o i = reachGo (l.length - (i + 1)) l (meetAll o c) (i + 1) := by
  have := hg.le
  rw [show l.length - i = (l.length - (i + 1)) + 1 by omega]
  conv => lhs; unfold reachGo
  rw [if_pos (by omega)]
  simp only [List.getD, hx, Option.getD_some, hc]
end Go.WX

namespace Go.WX
open Go.RowKit Go.Deep
/-- What can be read as data of type T lies as R says. -/
def Opens {α : Type} (P : Program) (T : TypeId) (R : Rep α) : Prop :=
  ∀ (H : Type) (enc : TypeId × Value → H) (w : World) (spare : Nat → Bool) (held : Bool) (fuel : Nat) (cs : List Value) (x : DataW H × List MemPlace), DataW.trod enc P w 0 spare held fuel T cs = some x → ∃ d, R.rd w [] cs d
theorem boundsOfWf {n : Int} (h : (Lit.int .i64 n).wf = true) : I64 n := by
  simp [Lit.wf, IntKind.min, IntKind.max, IntKind.signed, IntKind.bits] at h
  exact h
theorem opens_int {P : Program} {T : TypeId} (ht : P.underlying T = some (.int .i64)) : Opens P T rInt := by
  intro H enc w spare held fuel cs x h
  obtain ⟨n, rfl, _, hw⟩ := DataW.trod_int ht h
  exact ⟨n, rfl, boundsOfWf hw⟩
theorem opens_bool {P : Program} {T : TypeId} (ht : P.underlying T = some .bool) : Opens P T rBool := by
  intro H enc w spare held fuel cs x h
  obtain ⟨b, rfl, _⟩ := DataW.trod_bool ht h
  exact ⟨b, rfl⟩
theorem opens_slice {α : Type} {P : Program} {T E : TypeId} {R : Rep α} (ht : P.underlying T = some (.slice E)) (hc : P.cellsOf E = R.sz) (h : Opens P E R) : Opens P T (rSlice R) := by
  intro H enc w spare held fuel cs x hx
  rcases open_slice ht hx with ⟨rfl, rfl⟩ | ⟨a, len, cap, m, n, D, Pl, rfl, _, hl, hm, hmm, rfl, hel⟩
  · exact ⟨[], _, rfl, rSliceRd.nil⟩
  · have hlm : len ≤ m := by rw [hmm]; split <;> omega
    have key : ∀ i, i < len → ∃ d : α, ∃ b o cells F fz, a = ⟨b, o, none⟩ ∧ w.heap[b]? = some (.cells cells F fz) ∧ R.rd w [] ((cells.toList.drop (o + i * R.sz)).take R.sz) d := by
      intro i hi
      obtain ⟨cs', h1, h2⟩ := hel i (by omega)
      obtain ⟨d, hd⟩ := h H enc w spare held n cs' _ h2
      refine ⟨d, ?_⟩
      rw [hc] at h1
      obtain ⟨_, hlen, hcell⟩ := World.cells?_some h1
      have hp := R.pos
      have hsp : a.spot = none := by
        obtain ⟨cs0, g1, _⟩ := hel 0 (by omega)
        rw [hc] at g1
        obtain ⟨_, glen, gcell⟩ := World.cells?_some g1
        have g0 := gcell 0 hp
        rw [Nat.zero_mul, add_add, Nat.zero_add] at g0
        have : ∃ v, cs0[0]? = some v := ⟨cs0[0]'(by omega), List.getElem?_eq_getElem (by omega)⟩
        obtain ⟨v, hv⟩ := this
        rw [hv] at g0
        have := World.cell?_spot g0
        simpa [Addr.add] using this
      obtain ⟨b, o, sp⟩ := a
      simp only at hsp
      subst hsp
      have hadd : ∀ k, (⟨b, o, none⟩ : Addr).add k = ⟨b, o + k, none⟩ := by
        intro k; unfold Addr.add; split <;> simp_all
      have hc0 : ∀ j, j < R.sz → w.cell? ⟨b, o + i * R.sz + j, none⟩ = cs'[j]? := by
        intro j hj
        have := hcell j hj
        rw [add_add, hadd] at this
        rw [← this, Nat.add_assoc]
      have h0 := hc0 0 hp
      have hv : cs'[0]? = some (cs'[0]'(by omega)) := List.getElem?_eq_getElem (by omega)
      rw [hv] at h0
      unfold World.cell? at h0
      cases hb : w.heap[b]? with
      | none => simp [hb] at h0
      | some ob =>
        cases ob with
        | cells cells F fz =>
          refine ⟨b, o, cells, F, fz, rfl, hb, ?_⟩
          have e : (cells.toList.drop (o + i * R.sz)).take R.sz = cs' := by
            apply List.ext_getElem?
            intro j
            rw [List.getElem?_take, List.getElem?_drop]
            by_cases hj : j < R.sz
            · rw [if_pos hj, ← hc0 j hj]
              simp [World.cell?, hb]
            · rw [if_neg hj, List.getElem?_eq_none (by omega)]
          rw [e]
          exact hd
        | _ => simp [hb] at h0
    obtain ⟨f, hf⟩ : ∃ f : (i : Nat) → i < len → α, ∀ i hi, ∃ b o cells F fz, a = ⟨b, o, none⟩ ∧ w.heap[b]? = some (.cells cells F fz) ∧ R.rd w [] ((cells.toList.drop (o + i * R.sz)).take R.sz) (f i hi) :=
      ⟨fun i hi => Classical.choose (key i hi), fun i hi => Classical.choose_spec (key i hi)⟩
    refine ⟨List.ofFn (fun i : Fin len => f i.val i.isLt), _, rfl, some a, cap, by simp, by simpa using hl, hm, (fun h => by cases h), ?_⟩
    intro i hi
    have hi' : i < len := by simpa using hi
    obtain ⟨b, o, cells, F, fz, rfl, hb, hr⟩ := hf i hi'
    refine ⟨b, o, cells, F, fz, rfl, List.not_mem_nil, hb, ?_⟩
    simpa using hr
/-- A struct's fields, one by one. -/
theorem field_trod {H : Type} {enc : TypeId × Value → H} {P : Program} {w : World} {spare : Nat → Bool} {held : Bool} {T : TypeId} {fs : Array Field} {fuel : Nat} {cs : List Value} {x : DataW H × List MemPlace} (ht : P.underlying T = some (.struct fs)) (h : DataW.trod enc P w 0 spare held fuel T cs = some x) :
    cs.length = P.cellsOf T ∧ ∃ n : Nat, ∀ (i : Nat) (f : Field), fs[i]? = some f → ∃ y : DataW H × List MemPlace, DataW.trod enc P w 0 spare held n f.type ((cs.drop f.offset).take (P.cellsOf f.type)) = some y := by
  obtain ⟨xs, n, _, _, hl, hxs, hf⟩ := DataW.trod_struct ht h
  refine ⟨hl, n, fun i f hi => ?_⟩
  have := hf i f hi
  have hlt : i < xs.length := by
    rw [hxs]
    rcases Nat.lt_or_ge i fs.size with h1 | h1
    · exact h1
    · rw [Array.getElem?_eq_none h1] at hi; cases hi
  rw [List.getElem?_eq_getElem hlt] at this
  exact ⟨_, this⟩
/-- .. each read by its own R. -/
theorem field_opens {α : Type} {H : Type} {enc : TypeId × Value → H} {P : Program} {w : World} {spare : Nat → Bool} {held : Bool} {fs : Array Field} {n : Nat} {cs : List Value} {R : Rep α} {i : Nat} {f : Field}
    (h : ∀ (i : Nat) (f : Field), fs[i]? = some f → ∃ y : DataW H × List MemPlace, DataW.trod enc P w 0 spare held n (Field.type f) ((cs.drop f.offset).take (P.cellsOf f.type)) = some y) (hi : fs[i]? = some f) (hc : P.cellsOf f.type = R.sz) (hR : Opens P f.type R) :
    ∃ d, R.rd w [] ((cs.drop f.offset).take R.sz) d := by
  obtain ⟨y, hy⟩ := h i f hi
  rw [hc] at hy
  exact hR H enc w spare held n _ _ hy
theorem cells_one {l : List Value} {o : Nat} {v : Value} (h : (l.drop o).take 1 = [v]) : l[o]? = some v := by
  have := congrArg (fun l => l[0]?) h
  simpa [List.getElem?_take, List.getElem?_drop] using this
theorem opens_val {P : Program} {T : TypeId} {f0 f1 : Field} (ht : P.underlying T = some (.struct #[f0, f1])) (hc : P.cellsOf T = 2) (o0 : f0.offset = 0) (o1 : f1.offset = 1) (c0 : P.cellsOf f0.type = 1) (c1 : P.cellsOf f1.type = 1)
    (h0 : Opens P f0.type rInt) (h1 : Opens P f1.type rInt) : Opens P T rVal := by
  intro H enc w spare held fuel cs x h
  obtain ⟨hl, n, hf⟩ := field_trod ht h
  obtain ⟨a, ha⟩ := field_opens (R := rInt) (i := 0) hf rfl c0 h0
  obtain ⟨b, hb⟩ := field_opens (R := rInt) (i := 1) hf rfl c1 h1
  replace ha : rInt.rd w [] ((cs.drop f0.offset).take 1) a := ha
  replace hb : rInt.rd w [] ((cs.drop f1.offset).take 1) b := hb
  rw [o0] at ha
  rw [o1] at hb
  have e0 := cells_one ha.1
  have e1 := cells_one hb.1
  rw [hc] at hl
  match cs, hl with
  | [c, d], _ =>
    simp at e0 e1
    subst e0 e1
    exact ⟨⟨a, b⟩, rfl, ha.2, hb.2⟩
end Go.WX

namespace Go.WX
open Go.RowKit
/-- The walk of a region that draws its order and leaves the worlds of the class C alone: in the order of the text. -/
structure WQ (P : Program) (ops : Array Oper) (C : World → Prop) (Q : Act → Prop) (l : List Oper) (n : Nat) (env : Nat → Value) : Prop where
  out : wpQuiet P ops C Q l (act n env)
section
variable {P : Program} {ops : Array Oper} {C : World → Prop} {Q : Act → Prop} {n : Nat} {env : Nat → Value} {rest : List Oper}
  {d : Option Nat} {op : Op} {ty : TypeId} {pos : String} {af : Array Edge} {v : Value} {g : Option (Nat × Bool)} {T : TypeId}
theorem wq_ok (hr : ∀ w, C w → (execOp (ev n env) ⟨d, op, ty, pos, af, none⟩).run P w = .ok (.value v) w) (h : WQ P ops C Q rest n (updo env d v)) : WQ P ops C Q (⟨d, op, ty, pos, af, none⟩ :: rest) n env := by
  refine ⟨?_⟩
  unfold wpQuiet
  have hw0 : Region.wanted ⟨d, op, ty, pos, af, none⟩ (yielded ops (act n env).tmps) = true := rfl
  rw [if_pos hw0]
  refine ⟨v, fun w hw => ?_, ?_⟩
  · unfold Oper.quietAt
    rw [act_eval, hr w hw]
    exact ⟨rfl, rfl⟩
  · rw [act_put]; exact h.out
theorem wq_call {x : Operand} {f : FuncId} {first captured : Array Value} {xs : Array Operand} {ts : Array TypeId} {args : List Value} (hf : FnOk P f) (hx : ev n env x = .func (.func f) first captured)
    (ha : first.toList ++ xs.toList.map (ev n env) ++ captured.toList = args) (hc : ∀ w, C w → Calls P f args.toArray w (fun e w' => e = .returned v ∧ C w')) (h : WQ P ops C Q rest n (updo env d v)) :
    WQ P ops C Q (⟨d, .call { callee := .value x, args := xs, argTypes := ts }, ty, pos, af, none⟩ :: rest) n env := by
  refine ⟨?_⟩
  unfold wpQuiet
  rw [if_pos (show Region.wanted _ _ = true from rfl)]
  refine ⟨v, fun w hw => ?_, ?_⟩
  · unfold Oper.quietAt
    rw [act_eval, r_call hf hx]
    have : first ++ xs.map (ev n env) ++ captured = args.toArray := by
      rw [← ha]; apply Array.ext'; simp
    rw [this]
    exact ⟨rfl, hc w hw⟩
  · rw [act_put]; exact h.out
theorem wq_on {j dj : Nat} {b : Bool} (hd : (ops[j]?).bind (·.dst) = some dj) (hv : ev n env (.tmp dj) = .bool b) (h : WQ P ops C Q (⟨d, op, ty, pos, af, none⟩ :: rest) n env) : WQ P ops C Q (⟨d, op, ty, pos, af, some (j, b)⟩ :: rest) n env := by
  have hy := yielded_of (ops := ops) hd hv
  have hw : Region.wanted ⟨d, op, ty, pos, af, some (j, b)⟩ (yielded ops (act n env).tmps) = true := by simp [Region.wanted, hy]
  have hw0 : Region.wanted ⟨d, op, ty, pos, af, none⟩ (yielded ops (act n env).tmps) = true := rfl
  obtain ⟨h⟩ := h
  refine ⟨?_⟩
  unfold wpQuiet at h ⊢
  rw [if_pos hw0] at h
  rw [if_pos hw]
  exact h
theorem wq_off {j dj : Nat} {b b' : Bool} (hd : (ops[j]?).bind (·.dst) = some dj) (hv : ev n env (.tmp dj) = .bool b') (hb : (b' == b) = false) (h : WQ P ops C Q rest n (updo env d undef)) : WQ P ops C Q (⟨d, op, ty, pos, af, some (j, b)⟩ :: rest) n env := by
  have hy := yielded_of (ops := ops) hd hv
  have hw : Region.wanted ⟨d, op, ty, pos, af, some (j, b)⟩ (yielded ops (act n env).tmps) = false := by simpa [Region.wanted, hy] using hb
  refine ⟨?_⟩
  unfold wpQuiet
  rw [if_neg (by rw [hw]; decide), act_put]
  exact h.out
theorem wq_nil (h : Q (act n env)) : WQ P ops C Q [] n env := ⟨h⟩
theorem wq_index {α : Type} {R : Rep α} {x y : Operand} {E : TypeId} {sz : Nat} {w : World} {M : List Nat} {l : List α} {k : Int} (hT : SliceOf P T E sz) (hs : R.sz = sz) (hx : ev n env x = v) (hv : rSliceRd R w M v l) (hy : ev n env y = .int .i64 k) (h0 : 0 ≤ k) (hk : k < l.length)
    (h : ∀ p cs x, l[k.toNat]? = some x → PtTo w M p cs → R.rd w M cs x → WQ P ops C Q rest n (updo env d p)) : WQ P ops C Q (⟨d, .indexAddr T x y, ty, pos, af, none⟩ :: rest) n env := by
  subst hs
  obtain ⟨p, cs, h1, h2, h3⟩ := r_indexAddr (d := d) (ty := ty) (pos := pos) (af := af) (g := none) hT hx hv hy h0 hk
  exact wq_ok (fun w _ => h1 w) (h p cs _ (List.getElem?_eq_getElem (by omega)) h2 h3)
theorem wq_indexN {α : Type} {R : Rep α} {x y : Operand} {E : TypeId} {sz : Nat} {w : World} {M : List Nat} {l : List α} {k : Nat} (hT : SliceOf P T E sz) (hs : R.sz = sz) (hx : ev n env x = v) (hv : rSliceRd R w M v l) (hy : ev n env y = .int .i64 (k : Int)) (hk : k < l.length)
    (h : ∀ p cs x, l[k]? = some x → PtTo w M p cs → R.rd w M cs x → WQ P ops C Q rest n (updo env d p)) : WQ P ops C Q (⟨d, .indexAddr T x y, ty, pos, af, none⟩ :: rest) n env :=
  wq_index hT hs hx hv hy (Int.natCast_nonneg k) (by omega) (fun p cs x hx => h p cs x (by simpa using hx))
end
/-- A region that draws: the class: the world, grown. -/
theorem wc_quiet {P : Program} {Q : Exit → Act → World → Prop} {n : Nat} {env : Nat → Value} {w : World} {id : Nat} {l : List Oper} (hm : P.follows .mixedOrders = true) (hB : Region.lexB .any l.toArray = true)
    (h : WQ P l.toArray (Grow w) (fun a => ∀ w', Grow w w' → Q .normal a w') l n env) : WC P (Code.region id l.toArray true) Q n env w :=
  ⟨wp_region_quiet hm hB (Grow.drew w) h.out⟩
theorem PtTo.grow {w w' : World} {M : List Nat} {p : Value} {cs : List Value} (h : PtTo w M p cs) (hk : Grow w w') : PtTo w' M p cs := h.go (hk.weaken (fun _ h => absurd h List.not_mem_nil)) (fun _ h _ => h)
theorem rSliceRd.grow {α : Type} {R : Rep α} {w w' : World} {M : List Nat} {v : Value} {l : List α} (h : rSliceRd R w M v l) (hk : Grow w w') : rSliceRd R w' M v l := h.go (hk.weaken (fun _ h => absurd h List.not_mem_nil)) (fun _ h _ => h)
end Go.WX

namespace Go.WX
open Go.RowKit
theorem cells_of_one {v : Value} (h : v.oneCell' = true) : v.cells = #[v] := by
  cases v <;> first | rfl | simp [Value.oneCell'] at h
theorem toList_of_one {v : Value} (h : v.oneCell' = true) : v.cells.toList = [v] := by rw [cells_of_one h]
theorem rSliceRd.rdc {α : Type} {R : Rep α} {w : World} {M : List Nat} {v : Value} {l : List α} (h : rSliceRd R w M v l) : (rSlice R).rd w M v.cells.toList l := by
  rw [cells_of_one h.one]
  exact ⟨v, rfl, h⟩
/-- A struct type: its zero's cells, the places of its fields. -/
structure Struct (P : Program) (T : TypeId) (zs : List Value) (pl : List (Nat × Nat)) : Prop where
  zero : (P.info? T).map (·.zero) = some (some (.agg zs.toArray))
  desc : ∃ fs, P.underlying T = some (.struct fs) ∧ fs.toList.map (fun f => (f.offset, (P.info? f.type).map (·.size))) = pl.map (fun p => (p.1, some p.2))
/-- Parts laid into cells, one behind the other. -/
def FillOk (pl : List (Nat × Nat)) (cs : List Value) : List (Nat × Value) → List Value → Prop
  | [], out => cs = out
  | (i, v) :: r, out => ∃ off size vs, pl[i]? = some (off, size) ∧ v.cells.toList = vs ∧ vs.length = size ∧ off + size ≤ cs.length ∧ FillOk pl (spl cs off vs) r out
theorem fill_ok {pl : List (Nat × Nat)} : ∀ {parts : List (Nat × Value)} {cs out : List Value}, FillOk pl cs parts out → Instr.fill (fun i => pl[i]?) cs.toArray parts = some out.toArray
  | [], cs, out, h => by cases h; rfl
  | (i, v) :: r, cs, out, h => by
    obtain ⟨off, size, vs, h1, h2, h3, h4, h5⟩ := h
    unfold Instr.fill
    simp only [h1]
    have hsz : v.cells.size = size := by rw [← h3, ← h2, Array.length_toList]
    rw [if_neg (by simp [hsz]; omega)]
    have hf := fill_fold vs cs.toArray off (by rw [h3]; simpa using h4)
    have : (v.cells.zipIdx.foldl (fun cs (p : Value × Nat) => cs.setIfInBounds (off + p.2) p.1) cs.toArray) = (spl cs off vs).toArray := by
      apply Array.ext'
      rw [← Array.foldl_toList, Array.toList_zipIdx, h2]
      exact hf
    have ih := fill_ok h5
    rw [← this] at ih
    exact ih
section
variable {P : Program} {ops : Array Oper} {Q : Exit → Act → World → Prop} {n : Nat} {env : Nat → Value} {w w' : World} {rest : List Oper}
  {d : Option Nat} {op : Op} {ty : TypeId} {pos : String} {af : Array Edge} {v : Value} {g : Option (Nat × Bool)} {T : TypeId} {ρ : Operand → Value}
theorem run_places {P : Program} {w : World} : ∀ (fs : List Field) (pl : List (Nat × Nat)), fs.map (fun f => (f.offset, (P.info? f.type).map (·.size))) = pl.map (fun p => (p.1, some p.2)) →
    (fs.mapM (m := Sem) fun f => do pure (f.offset, ← sizeOf f.type)).run P w = .ok pl w
  | [], [], _ => rfl
  | [], _ :: _, h => by simp at h
  | _ :: _, [], h => by simp at h
  | f :: fs, p :: pl, h => by
    simp only [List.map_cons, List.cons.injEq, Prod.mk.injEq] at h
    obtain ⟨⟨h1, h2⟩, h3⟩ := h
    have ih := run_places (w := w) fs pl h3
    obtain ⟨i, hi, hs⟩ : ∃ i, P.info? f.type = some i ∧ i.size = p.2 := by
      cases hi : P.info? f.type with
      | none => simp [hi] at h2
      | some i => simp [hi] at h2; exact ⟨i, rfl, h2⟩
    rw [List.mapM_cons]
    simp only [Sem.run_bind, sizeOf, typeInfo, run_program, Result.andThen_ok, hi, Sem.run_pure, hs, h1]
    simp only [sizeOf, typeInfo] at ih
    rw [ih]
    simp
theorem r_build {zs out : List Value} {pl : List (Nat × Nat)} {parts : Array (Nat × Operand)} {pv : List (Nat × Value)} (hT : Struct P T zs pl) (hp : (parts.toList.map fun p => (p.1, ρ p.2)) = pv) (hf : FillOk pl zs pv out) :
    (execOp ρ ⟨d, .build T parts, ty, pos, af, g⟩).run P w = .ok (.value (.agg out.toArray)) w := by
  obtain ⟨fs, hfs, hpl⟩ := hT.desc
  obtain ⟨i, hi, hz⟩ : ∃ i, P.info? T = some i ∧ i.zero = some (.agg zs.toArray) := by
    have := hT.zero
    cases hi : P.info? T with
    | none => simp [hi] at this
    | some i => simp [hi] at this; exact ⟨i, rfl, this⟩
  have hm := run_places (w := w) fs.toList pl hpl
  have hm2 : (fs.mapM (m := Sem) fun f => do pure (f.offset, ← sizeOf f.type)).run P w = .ok pl.toArray w := by
    rw [Array.mapM_eq_mapM_toList]
    simp only [Sem.run_map, hm, Result.andThen_ok]
  have hpv : (parts.map fun p => (p.1, ρ p.2)).toList = pv := by rw [← hp]; simp
  have hfill := fill_ok hf
  simp only [execOp, Instr.build, zeroValue, typeInfo, underlying]
  simp only [Sem.run_bind, run_program, Result.andThen_ok, hi, Sem.run_pure, hz, hfs, hm2, hpv, Value.cells]
  have e : (fun (x : Nat) => pl.toArray[x]?) = fun (i : Nat) => pl[i]? := by funext x; simp
  rw [e, hfill]
  simp
def isNil : Value → Bool | .slice none _ _ => true | _ => false
theorem r_eqnil {α : Type} {R : Rep α} {x y : Operand} {T2 E : TypeId} {sz : Nat} {M : List Nat} {l : List α} {w0 : World} (hT : SliceOf P T E sz) (hx : ρ x = v) (hv : rSliceRd R w0 M v l) (hy : ρ y = .slice none 0 0) : (execOp ρ ⟨d, .binOp .eql T x y T2, ty, pos, af, g⟩).run P w = .ok (.value (.bool (isNil v))) w := by
  obtain ⟨a, cap, rfl, h1, h2, h3, h4⟩ := hv
  have key : ∀ a l c, (Op.equalIn Op.maxDepth T (.slice a l c) (.slice none 0 0)).run P w = .ok a.isNone w := by
    intro a l c
    show (Op.equalIn (9999 + 1) T (.slice a l c) (.slice none 0 0)).run P w = _
    unfold Op.equalIn
    simp only [Sem.run_bind, underlying, run_program, Result.andThen_ok, hT.desc, Sem.run_pure]
    cases a <;> simp
  cases a <;> simp [execOp, hx, hy, eqGuard, binOp, isNil, Op.equal, key]
/-- A bound of a slice expression. -/
def BndIs (o : Option Value) (a other : Nat) : Prop := (o = none ∧ a = other) ∨ o = some (.int .i64 a)
theorem r_slice {α : Type} {R : Rep α} {x : Operand} {lo hi : Option Operand} {E : TypeId} {sz a b : Nat} {w0 : World} {M : List Nat} {l : List α} (hT : SliceOf P T E sz) (hs : R.sz = sz) (hx : ρ x = v) (hv : rSliceRd R w0 M v l)
    (hlo : BndIs (lo.map ρ) a 0) (hhi : BndIs (hi.map ρ) b l.length) (hab : a ≤ b) (hb : b ≤ l.length) :
    ∃ u, (∀ w, (execOp ρ ⟨d, .slice T x lo hi none, ty, pos, af, g⟩).run P w = .ok (.value u) w) ∧ rSliceRd R w0 M u ((l.take b).drop a) := by
  subst hs
  obtain ⟨ad, cap, rfl, h1, h2, h3, h4⟩ := hv
  obtain ⟨i, hi', his⟩ : ∃ i, P.info? E = some i ∧ i.size = R.sz := by
    have := hT.info
    cases hi : P.info? E with
    | none => simp [hi] at this
    | some i => simp [hi] at this; exact ⟨i, rfl, this⟩
  have hbc : b ≤ cap := by omega
  have hbnd : ∀ w, (Instr.sliceBounds true l.length cap (lo.map ρ) (hi.map ρ) none).run P w = .ok (a, b, cap) w := by
    intro w
    have h0 : (0 : Int) ≤ (a : Int) := Int.natCast_nonneg a
    have h0b : (0 : Int) ≤ (b : Int) := Int.natCast_nonneg b
    have hai : (a : Int) ≤ (b : Int) := by omega
    have hbi : (b : Int) ≤ (cap : Int) := by omega
    rcases hlo with ⟨e1, e2⟩ | e1 <;> rcases hhi with ⟨f1, f2⟩ | f1
    · subst e2 f2; simp [Instr.sliceBounds, e1, f1]
    · subst e2; simp [Instr.sliceBounds, e1, f1, Instr.sliceBound, asIntOf, hbc]
    · subst f2; simp [Instr.sliceBounds, e1, f1, Instr.sliceBound, asIntOf, hab]
    · simp [Instr.sliceBounds, e1, f1, Instr.sliceBound, asIntOf, hab, hbc]
  refine ⟨.slice (if cap = a then ad else ad.map (·.add (a * R.sz))) (b - a) (cap - a), fun w => ?_, ?_⟩
  · have hb2 := hbnd w
    simp only [execOp, Instr.sliceAt, Instr.slice, underlying, hx]
    simp [hT.desc, hb2, sizeOf, typeInfo, hi', his]
  · have hlen : ((l.take b).drop a).length = b - a := by rw [List.length_drop, List.length_take]; omega
    refine ⟨_, cap - a, by rw [hlen], by rw [hlen]; omega, by omega, ?_, ?_⟩
    · intro hn
      split at hn
      · omega
      · cases ad with
        | none => have := h3 rfl; omega
        | some x => simp at hn
    · intro j hj
      rw [hlen] at hj
      obtain ⟨bb, o, cells, F, fz, e1, e2, e3, e4⟩ := h4 (a + j) (by omega)
      subst e1
      refine ⟨bb, o + a * R.sz, cells, F, fz, ?_, e2, e3, ?_⟩
      · rw [if_neg (by omega)]
        simp only [Option.map_some, Option.some.injEq]
        unfold Addr.add
        split
        · next hz => rw [hz]; rfl
        · rfl
      · have : ((l.take b).drop a)[j]'(by rw [hlen]; exact hj) = l[a + j]'(by omega) := by simp
        rw [this]
        rw [show o + a * R.sz + j * R.sz = o + (a + j) * R.sz by rw [Nat.add_mul, Nat.add_assoc]]
        exact e4
theorem wl_slice {α : Type} {R : Rep α} {x : Operand} {lo hi : Option Operand} {E : TypeId} {sz a b : Nat} {M : List Nat} {l : List α} (hT : SliceOf P T E sz) (hs : R.sz = sz) (hx : ev n env x = v) (hv : rSliceRd R w M v l)
    (hlo : BndIs (lo.map (ev n env)) a 0) (hhi : BndIs (hi.map (ev n env)) b l.length) (hab : a ≤ b) (hb : b ≤ l.length)
    (h : ∀ u, rSliceRd R w M u ((l.take b).drop a) → WL P ops Q rest n (updo env d u) w) : WL P ops Q (⟨d, .slice T x lo hi none, ty, pos, af, none⟩ :: rest) n env w := by
  obtain ⟨u, h1, h2⟩ := r_slice (d := d) (ty := ty) (pos := pos) (af := af) (g := none) hT hs hx hv hlo hhi hab hb
  exact wl_ok (h1 w) (h u h2)
theorem wq_slice {α : Type} {R : Rep α} {C : World → Prop} {Q : Act → Prop} {x : Operand} {lo hi : Option Operand} {E : TypeId} {sz a b : Nat} {M : List Nat} {l : List α} (hT : SliceOf P T E sz) (hs : R.sz = sz) (hx : ev n env x = v) (hv : rSliceRd R w M v l)
    (hlo : BndIs (lo.map (ev n env)) a 0) (hhi : BndIs (hi.map (ev n env)) b l.length) (hab : a ≤ b) (hb : b ≤ l.length)
    (h : ∀ u, rSliceRd R w M u ((l.take b).drop a) → WQ P ops C Q rest n (updo env d u)) : WQ P ops C Q (⟨d, .slice T x lo hi none, ty, pos, af, none⟩ :: rest) n env := by
  obtain ⟨u, h1, h2⟩ := r_slice (d := d) (ty := ty) (pos := pos) (af := af) (g := none) hT hs hx hv hlo hhi hab hb
  exact wq_ok (fun w _ => h1 w) (h u h2)
theorem nil_of_isNil {α : Type} {R : Rep α} {M : List Nat} {l : List α} (hv : rSliceRd R w M v l) (h : isNil v = true) : v = .slice none 0 0 ∧ l = [] := by
  obtain ⟨a, cap, rfl, h1, h2, h3, h4⟩ := hv
  cases a with
  | none =>
    have := h3 rfl
    subst this
    have hl : l.length = 0 := by omega
    exact ⟨by rw [hl], List.eq_nil_of_length_eq_zero hl⟩
  | some a => simp [isNil] at h
end
end Go.WX

namespace Go.WX
/-! Plain laws of what is reached. -/
/-- v leads to x. -/
def Leads (v : Val) (x : Int) : Prop := v.kind = 2 ∧ v.n = x
theorem mem_meet1 {o : List Int} {v : Val} {x : Int} : x ∈ meet1 o v ↔ x ∈ o ∨ Leads v x := by
  unfold meet1 Leads
  by_cases hk : v.kind = 2
  · by_cases hm : v.n ∈ o
    · simp only [hk, hm, if_true, true_and]
      constructor
      · exact .inl
      · rintro (h | rfl)
        · exact h
        · exact hm
    · simp only [hk, hm, if_true, if_false, true_and, List.mem_append, List.mem_singleton]
      constructor
      · rintro (h | h)
        · exact .inl h
        · exact .inr h.symm
      · rintro (h | h)
        · exact .inl h
        · exact .inr h.symm
  · simp [hk]
theorem mem_meetAll {l : List Val} : ∀ {o : List Int} {x : Int}, x ∈ meetAll o l ↔ x ∈ o ∨ ∃ v ∈ l, Leads v x := by
  induction l with
  | nil => intro o x; simp [meetAll]
  | cons a r ih =>
    intro o x
    unfold meetAll
    rw [ih, mem_meet1]
    simp only [List.mem_cons, exists_eq_or_imp, or_assoc]
theorem nodup_meet1 {o : List Int} {v : Val} (h : o.Nodup) : (meet1 o v).Nodup := by
  unfold meet1
  split
  · split
    · exact h
    · next hm =>
      rw [List.nodup_append]
      refine ⟨h, by simp, fun a ha b hb => ?_⟩
      simp at hb; subst hb
      exact fun e => hm (e ▸ ha)
  · exact h
theorem nodup_meetAll {l : List Val} : ∀ {o : List Int}, o.Nodup → (meetAll o l).Nodup := by
  induction l with
  | nil => intro o h; exact h
  | cons a r ih => intro o h; exact ih (nodup_meet1 h)
theorem pre_meet1 {o : List Int} {v : Val} : ∃ t, meet1 o v = o ++ t := by
  unfold meet1
  split
  · split
    · exact ⟨[], by simp⟩
    · exact ⟨_, rfl⟩
  · exact ⟨[], by simp⟩
theorem pre_meetAll {l : List Val} : ∀ {o : List Int}, ∃ t, meetAll o l = o ++ t := by
  induction l with
  | nil => intro o; exact ⟨[], by simp [meetAll]⟩
  | cons a r ih =>
    intro o
    obtain ⟨t, ht⟩ := pre_meet1 (o := o) (v := a)
    obtain ⟨u, hu⟩ := ih (o := meet1 o a)
    refine ⟨t ++ u, ?_⟩
    unfold meetAll
    rw [hu, ht, List.append_assoc]
/-- The row of cell x. -/
def rowOf (l : List (List Val)) (x : Int) : List Val := l.getD x.toNat []
theorem good_meetAll {n : Int} {l : List Val} {o : List Int} (h : GoodR n o) (hl : ∀ v ∈ l, v.kind = 2 → 0 ≤ v.n ∧ v.n < n) : GoodR n (meetAll o l) := by
  refine ⟨nodup_meetAll h.1, fun x hx => ?_⟩
  rcases mem_meetAll.1 hx with hx | ⟨v, hv, hk, rfl⟩
  · exact h.2 x hx
  · exact hl v hv hk
/-- What is reached is closed, and nothing else is. -/
theorem reachGo_closed (l : List (List Val)) (from_ : List Val) (hrows : ∀ x : Int, 0 ≤ x → x < l.length → ∀ v ∈ rowOf l x, v.kind = 2 → 0 ≤ v.n ∧ v.n < l.length) : ∀ (f : Nat) (o : List Int) (i : Nat), GoodR l.length o → l.length ≤ f + i → i ≤ o.length →
    (∀ v ∈ from_, ∀ x, Leads v x → x ∈ o) → (∀ j (h : j < o.length), j < i → ∀ v ∈ rowOf l o[j], ∀ x, Leads v x → x ∈ o) → (∀ x ∈ o, (∃ v ∈ from_, Leads v x) ∨ ∃ y ∈ o, ∃ v ∈ rowOf l y, Leads v x) →
    GoodR l.length (reachGo f l o i) ∧ (∀ v ∈ from_, ∀ x, Leads v x → x ∈ reachGo f l o i) ∧ (∀ y ∈ reachGo f l o i, ∀ v ∈ rowOf l y, ∀ x, Leads v x → x ∈ reachGo f l o i) ∧
      (∀ x ∈ reachGo f l o i, (∃ v ∈ from_, Leads v x) ∨ ∃ y ∈ reachGo f l o i, ∃ v ∈ rowOf l y, Leads v x) := by
  intro f
  induction f with
  | zero =>
    intro o i hg hf hi h1 h2 h3
    have := hg.le
    refine ⟨hg, h1, ?_, h3⟩
    intro y hy v hv x hx
    obtain ⟨j, hj, rfl⟩ := List.getElem_of_mem hy
    exact h2 j hj (by have h9 : j < o.length := hj; omega) v hv x hx
  | succ f ih =>
    intro o i hg hf hi h1 h2 h3
    unfold reachGo
    by_cases hlt : i < o.length
    · rw [if_pos hlt]
      have hx0 := hg.2 _ (List.getElem_mem hlt)
      have hrow : l.getD (o.getD i 0).toNat [] = rowOf l o[i] := by
        unfold rowOf
        rw [List.getD_eq_getElem?_getD (l := o), List.getElem?_eq_getElem hlt]
        rfl
      rw [hrow]
      obtain ⟨t, ht⟩ := pre_meetAll (l := rowOf l o[i]) (o := o)
      have hsub : ∀ x ∈ o, x ∈ meetAll o (rowOf l o[i]) := fun x hx => mem_meetAll.2 (.inl hx)
      refine ih (meetAll o (rowOf l o[i])) (i + 1) (good_meetAll hg (hrows _ hx0.1 hx0.2)) (by omega) ?_ ?_ ?_ ?_
      · rw [ht, List.length_append]; omega
      · intro v hv x hx; exact hsub x (h1 v hv x hx)
      · intro j hj hji v hv x hx
        have hjo : j < o.length := by omega
        have e : (meetAll o (rowOf l o[i]))[j] = o[j] := by
          simp only [ht]
          rw [List.getElem_append_left hjo]
        rw [e] at hv
        by_cases hji2 : j = i
        · subst hji2
          exact mem_meetAll.2 (.inr ⟨v, hv, hx⟩)
        · exact hsub x (h2 j hjo (by omega) v hv x hx)
      · intro x hx
        rcases mem_meetAll.1 hx with hx | ⟨v, hv, hx⟩
        · rcases h3 x hx with h | ⟨y, hy, v, hv, hx⟩
          · exact .inl h
          · exact .inr ⟨y, hsub y hy, v, hv, hx⟩
        · exact .inr ⟨o[i], hsub _ (List.getElem_mem hlt), v, hv, hx⟩
    · rw [if_neg hlt]
      refine ⟨hg, h1, ?_, h3⟩
      intro y hy v hv x hx
      obtain ⟨j, hj, rfl⟩ := List.getElem_of_mem hy
      exact h2 j hj (by omega) v hv x hx
theorem checkVals_all {n : Int} : ∀ {l : List Val}, checkVals n l = 0 → ∀ v ∈ l, v.kind = 2 → 0 ≤ v.n ∧ v.n < n := by
  intro l h v hv hk
  obtain ⟨k, hk'⟩ := List.getElem?_of_mem hv
  exact valid_at h hk' hk
theorem reach_ok {l : List (List Val)} {from_ : List Val} (h : (reach l from_).2 = 0) : checkAll l = 0 ∧ from_.length ≤ 400 ∧ checkVals l.length from_ = 0 ∧ (reach l from_).1 = reachGo l.length l (meetAll [] from_) 0 := by
  unfold reach at h ⊢
  by_cases h1 : checkAll l ≠ 0
  · rw [if_pos h1] at h; exact absurd h h1
  · rw [if_neg h1] at h ⊢
    by_cases h2 : 400 < (from_.length : Int)
    · rw [if_pos h2] at h; simp at h
    · rw [if_neg h2] at h ⊢
      by_cases h3 : checkVals l.length from_ ≠ 0
      · rw [if_pos h3] at h; exact absurd h h3
      · rw [if_neg h3]
        exact ⟨Decidable.not_not.1 h1, by omega, Decidable.not_not.1 h3, rfl⟩
structure Closed (l : List (List Val)) (from_ : List Val) (o : List Int) : Prop where
  good : GoodR l.length o
  begins : ∀ v ∈ from_, ∀ x, Leads v x → x ∈ o
  closed : ∀ y ∈ o, ∀ v ∈ rowOf l y, ∀ x, Leads v x → x ∈ o
  only : ∀ x ∈ o, (∃ v ∈ from_, Leads v x) ∨ ∃ y ∈ o, ∃ v ∈ rowOf l y, Leads v x
theorem reach_closed {l : List (List Val)} {from_ : List Val} (h : (reach l from_).2 = 0) : Closed l from_ (reach l from_).1 := by
  obtain ⟨h1, h2, h3, h4⟩ := reach_ok h
  rw [h4]
  have hrows : ∀ x : Int, 0 ≤ x → x < l.length → ∀ v ∈ rowOf l x, v.kind = 2 → 0 ≤ v.n ∧ v.n < l.length := by
    intro x hx0 hx1 v hv hk
    have hlt : x.toNat < l.length := by omega
    have hrow : rowOf l x = l[x.toNat] := by
      unfold rowOf
      rw [List.getD_eq_getElem?_getD, List.getElem?_eq_getElem hlt]; rfl
    rw [hrow] at hv
    exact checkVals_all (checkAll_at h1 (List.getElem?_eq_getElem hlt)) v hv hk
  obtain ⟨a, b, c, d⟩ := reachGo_closed l from_ hrows l.length (meetAll [] from_) 0 (good_meetAll good_nil (checkVals_all h3)) (by omega) (Nat.zero_le _)
    (fun v hv x hx => mem_meetAll.2 (.inr ⟨v, hv, hx⟩)) (fun j _ hj => absurd hj (Nat.not_lt_zero _)) (fun x hx => by
      rcases mem_meetAll.1 hx with h | ⟨v, hv, hx⟩
      · cases h
      · exact .inl ⟨v, hv, hx⟩)
  exact ⟨a, b, c, d⟩
/-- Rows of what is reached, behind the values. -/
def rowsOf (l : List (List Val)) : List Int → List Val
  | [] => []
  | x :: r => rowOf l x ++ rowsOf l r
theorem mem_rowsOf {l : List (List Val)} {v : Val} : ∀ {o : List Int}, v ∈ rowsOf l o ↔ ∃ y ∈ o, v ∈ rowOf l y
  | [] => by simp [rowsOf]
  | x :: r => by
    unfold rowsOf
    rw [List.mem_append, mem_rowsOf]
    simp
theorem nodup_len {a b : List Int} (ha : a.Nodup) (hb : b.Nodup) (h : ∀ x, x ∈ a ↔ x ∈ b) : a.length = b.length := by
  have key : ∀ (a b : List Int), a.Nodup → (∀ x, x ∈ a → x ∈ b) → a.length ≤ b.length := by
    intro a
    induction a with
    | nil => intro b _ _; simp
    | cons x r ih =>
      intro b hn hs
      rw [List.nodup_cons] at hn
      have h1 := ih (b.erase x) hn.2 (fun y hy => by
        have hne : y ≠ x := fun e => hn.1 (e ▸ hy)
        exact (List.mem_erase_of_ne hne).2 (hs y (by simp [hy])))
      have hx := hs x (by simp)
      rw [List.length_erase_of_mem hx] at h1
      have : 0 < b.length := List.length_pos_of_mem hx
      simp only [List.length_cons]
      omega
  exact Nat.le_antisymm (key a b ha (fun x hx => (h x).1 hx)) (key b a hb (fun x hx => (h x).2 hx))
theorem closed_all {l : List (List Val)} {from_ : List Val} {o : List Int} (h : Closed l from_ o) : ∀ v ∈ from_ ++ rowsOf l o, v.kind = 2 → v.n ∈ o := by
  intro v hv hk
  rcases List.mem_append.1 hv with hv | hv
  · exact h.begins v hv _ ⟨hk, rfl⟩
  · obtain ⟨y, hy, hv⟩ := mem_rowsOf.1 hv
    exact h.closed y hy v hv _ ⟨hk, rfl⟩
theorem closed_len {l : List (List Val)} {from_ : List Val} {o : List Int} (h : Closed l from_ o) : (meetAll [] (from_ ++ rowsOf l o)).length = o.length := by
  refine nodup_len (nodup_meetAll List.nodup_nil) h.good.1 (fun x => ?_)
  rw [mem_meetAll]
  constructor
  · rintro (h0 | ⟨v, hv, hk, rfl⟩)
    · cases h0
    · exact closed_all h v hv hk
  · intro hx
    right
    rcases h.only x hx with ⟨v, hv, hl⟩ | ⟨y, hy, v, hv, hl⟩
    · exact ⟨v, List.mem_append_left _ hv, hl⟩
    · exact ⟨v, List.mem_append_right _ (mem_rowsOf.2 ⟨y, hy, hv⟩), hl⟩
end Go.WX

namespace Go.WX
theorem meetAll_snoc {o : List Int} {l : List Val} {v : Val} : meetAll o (l ++ [v]) = meet1 (meetAll o l) v := by
  induction l generalizing o with
  | nil => rfl
  | cons a r ih => exact ih
theorem meet_ins {o : List Int} {v : Val} (h : v.kind = 2) : meet1 o v = ins o v.n := by unfold meet1 ins; rw [if_pos h]
theorem meet_not {o : List Int} {v : Val} (h : ¬ v.kind = 2) : meet1 o v = o := by unfold meet1; rw [if_neg h]
theorem checkRows_len {n : Int} : ∀ {l : List (List Val)} {k : Nat} {c : List Val}, checkRows n l = 0 → l[k]? = some c → 0 < c.length ∧ c.length ≤ 4
  | [], k, x, _, h => by simp at h
  | v :: r, k, x, hc, h => by
    unfold checkRows at hc
    by_cases h1 : (v.length : Int) = 0
    · rw [if_pos h1] at hc; omega
    · rw [if_neg h1] at hc
      by_cases h2 : 4 < (v.length : Int)
      · rw [if_pos h2] at hc; omega
      · rw [if_neg h2] at hc
        by_cases hv : checkVals n v ≠ 0
        · rw [if_pos hv] at hc; exact absurd hc hv
        · rw [if_neg hv] at hc
          cases k with
          | zero => simp at h; subst h; omega
          | succ k => exact checkRows_len hc (by simpa using h)
theorem checkAll_row {l : List (List Val)} {k : Nat} {c : List Val} (h : checkAll l = 0) (hc : l[k]? = some c) : 0 < c.length ∧ c.length ≤ 4 := by
  unfold checkAll at h
  by_cases h1 : 24 < (l.length : Int)
  · rw [if_pos h1] at h; omega
  · rw [if_neg h1] at h; exact checkRows_len h hc
theorem rowOf_at {l : List (List Val)} {x : Int} {c : List Val} (h : l[x.toNat]? = some c) : rowOf l x = c := by
  unfold rowOf; rw [List.getD_eq_getElem?_getD, h]; rfl
end Go.WX

namespace Go.WX
deriving instance DecidableEq for Val
section
variable {P : Program} {w : World} {d : Option Nat} {ty : TypeId} {pos : String} {af : Array Edge} {g : Option (Nat × Bool)} {T : TypeId} {ρ : Operand → Value}
theorem r_eqlb {x y : Operand} {T T2 : TypeId} {p q : Bool} (hT : P.underlying T = some .bool) (hx : ρ x = .bool p) (hy : ρ y = .bool q) : (execOp ρ ⟨d, .binOp .eql T x y T2, ty, pos, af, g⟩).run P w = .ok (.value (.bool (p == q))) w := by
  simp [execOp, hx, hy, eqGuard, binOp, run_equal_bool w T p q hT]
theorem r_neqb {x y : Operand} {T T2 : TypeId} {p q : Bool} (hT : P.underlying T = some .bool) (hx : ρ x = .bool p) (hy : ρ y = .bool q) : (execOp ρ ⟨d, .binOp .neq T x y T2, ty, pos, af, g⟩).run P w = .ok (.value (.bool (p != q))) w := by
  simp [execOp, hx, hy, eqGuard, binOp, run_equal_bool w T p q hT, bne]
/-- A struct of two ints. -/
structure PairI (P : Program) (T : TypeId) : Prop where
  desc : ∃ f0 f1, P.underlying T = some (.struct #[f0, f1]) ∧ f0.name ≠ "_" ∧ f1.name ≠ "_" ∧ f0.offset = 0 ∧ f1.offset = 1 ∧ P.underlying f0.type = some (.int .i64) ∧ P.underlying f1.type = some (.int .i64) ∧ P.plainKey f0.type = true ∧ P.plainKey f1.type = true
  stood : P.stoodInHeld T = false
  guard : P.eqGuardType P.depth T = false
theorem eq_pairI (hT : PairI P T) (a b c e : Int) : (Op.equalIn 10000 T (.agg #[.int .i64 a, .int .i64 b]) (.agg #[.int .i64 c, .int .i64 e])).run P w = .ok (decide ((⟨a, b⟩ : Val) = ⟨c, e⟩)) w := by
  obtain ⟨f0, f1, h1, n0, n1, o0, o1, u0, u1, k0, k1⟩ := hT.desc
  have hF : P.fieldsOf T = #[f0, f1] := by simp [Program.fieldsOf, h1]
  rw [show (10000 : Nat) = 9999 + 1 from rfl, run_equalIn_agg w 9999 T _ _ (by rw [hF]; exact h1) hT.stood, hF]
  simp only [Op.eqFields, n0, n1, ne_eq, not_false_eq_true, if_true, o0, o1, Sem.run_bind]
  rw [run_part_plain w k0 (xs := #[.int .i64 a, .int .i64 b]) (off := 0) (v := .int .i64 a) rfl]
  simp only [Result.andThen_ok]
  rw [run_part_plain w k0 (xs := #[.int .i64 c, .int .i64 e]) (off := 0) (v := .int .i64 c) rfl]
  simp only [Result.andThen_ok]
  rw [show (9999 : Nat) = 9998 + 1 from rfl, run_equalIn_int w 9998 f0.type .i64 .i64 a c u0]
  simp only [Result.andThen_ok, Sem.run_ite, Sem.run_bind]
  by_cases h : a = c
  · subst h
    simp only [beq_self_eq_true, Bool.not_true, Bool.false_eq_true, if_false]
    rw [run_part_plain w k1 (xs := #[.int .i64 a, .int .i64 b]) (off := 1) (v := .int .i64 b) rfl]
    simp only [Result.andThen_ok]
    rw [run_part_plain w k1 (xs := #[.int .i64 a, .int .i64 e]) (off := 1) (v := .int .i64 e) rfl]
    simp only [Result.andThen_ok]
    rw [run_equalIn_int w 9998 f1.type .i64 .i64 b e u1]
    by_cases h2 : b = e <;> simp [h2]
  · simp [h]
theorem r_eqlV {x y : Operand} {T2 : TypeId} {a b c e : Int} (hT : PairI P T) (hx : ρ x = .agg #[.int .i64 a, .int .i64 b]) (hy : ρ y = .agg #[.int .i64 c, .int .i64 e]) : (execOp ρ ⟨d, .binOp .eql T x y T2, ty, pos, af, g⟩).run P w = .ok (.value (.bool (decide ((⟨a, b⟩ : Val) = ⟨c, e⟩)))) w := by
  simp only [execOp, hx, hy, Sem.run_bind, run_eqGuard_agg w .eql T x y _ _ hT.guard, Result.andThen_ok, run_eql_struct, eq_pairI hT]
  simp
theorem r_neqV {x y : Operand} {T2 : TypeId} {a b c e : Int} (hT : PairI P T) (hx : ρ x = .agg #[.int .i64 a, .int .i64 b]) (hy : ρ y = .agg #[.int .i64 c, .int .i64 e]) : (execOp ρ ⟨d, .binOp .neq T x y T2, ty, pos, af, g⟩).run P w = .ok (.value (.bool (decide ((⟨a, b⟩ : Val) ≠ ⟨c, e⟩)))) w := by
  simp only [execOp, hx, hy, Sem.run_bind, run_eqGuard_agg w .neq T x y _ _ hT.guard, Result.andThen_ok, run_neq_struct, eq_pairI hT]
  simp
theorem ret_bool {a b : Bool} (h : a = b) : Ending.returned (.bool a) = .returned (.bool b) := by rw [h]
end
/-- Lists that part somewhere. -/
theorem list_ne {α : Type} {x y : List α} {k : Nat} {a b : α} (hx : x[k]? = some a) (hy : y[k]? = some b) (h : ¬ a = b) : ¬ x = y := by
  rintro rfl
  rw [hx] at hy
  exact h (Option.some.inj hy)
theorem take_same {α : Type} {x y : List α} {k : Nat} {a b : α} (hx : x[k]? = some a) (hy : y[k]? = some b) (h : a = b) (ht : x.take k = y.take k) : x.take (k + 1) = y.take (k + 1) := by
  rw [take_snoc hx, take_snoc hy, ht, h]
theorem take_all {α : Type} {x y : List α} {k : Nat} (ht : x.take k = y.take k) (h1 : x.length ≤ k) (h2 : y.length ≤ k) : x = y := by
  rwa [List.take_of_length_le h1, List.take_of_length_le h2] at ht
end Go.WX

namespace Go.WX
/-- The frontier, as chapter 1's reference goes: j steps done, one behind. -/
def metGo (l : List (List Val)) (from_ : List Val) (o : List Int) : Nat → List Int
  | 0 => reachGo l.length l (meetAll o from_) 0
  | j + 1 => reachGo (l.length - j) l o j
def metL (l : List (List Val)) (from_ : List Val) : List Int := reachGo l.length l (meetAll [] from_) 0
theorem metGo_first {l : List (List Val)} {from_ : List Val} {o : List Int} {j : Nat} (h : j = 0) : metGo l from_ o j = metGo l from_ (meetAll o from_) (j + 1) := by subst h; rfl
theorem metGo_step {l : List (List Val)} {from_ : List Val} {o : List Int} {j i : Nat} {x : Int} {c : List Val} (hg : GoodR l.length o) (hj : j = i + 1) (hi : (i : Int) < (o.length : Nat)) (hx : o[i]? = some x) (hc : l[x.toNat]? = some c) :
    metGo l from_ o j = metGo l from_ (meetAll o c) (j + 1) := by
  subst hj
  exact reachGo_step hg hi hx hc
theorem metGo_done {l : List (List Val)} {from_ : List Val} {o : List Int} {j : Nat} (h : ¬ ((j : Int) - 1) < (o.length : Nat)) : metGo l from_ o j = o := by
  cases j with
  | zero => omega
  | succ j => exact reachGo_done (by omega)
theorem checkAll_valid {l : List (List Val)} {k : Nat} {c : List Val} {x : Val} {i : Nat} (h : checkAll l = 0) (hc : l[k]? = some c) (hx : c[i]? = some x) (hk : x.kind = 2) : 0 ≤ x.n ∧ x.n < l.length := valid_at (checkAll_at h hc) hx hk
end Go.WX
theorem Go.WX.rSliceRd.bare {α : Type} {R : Go.WX.Rep α} {w : Go.World} {M : List Nat} {v : Go.Value} {l : List α} (h : Go.WX.rSliceRd R w M v l) : Go.WX.rSliceRd R w [] v l := h.go (Go.WX.Keep.refl _ _) (fun _ h _ => absurd h List.not_mem_nil)

namespace Go.WX
open Go.RowKit
section
variable {P : Program} {ops : Array Oper} {Q : Exit → Act → World → Prop} {n : Nat} {env : Nat → Value} {w w' : World} {rest : List Oper}
  {d : Option Nat} {op : Op} {ty : TypeId} {pos : String} {af : Array Edge} {v : Value} {g : Option (Nat × Bool)} {T : TypeId} {ρ : Operand → Value}
theorem r_cap {x : Operand} {T E : TypeId} {sz : Nat} {a : Option Addr} {l c : Nat} (hT : SliceOf P T E sz) (hx : ρ x = .slice a l c) :
    (execOp ρ ⟨d, .call { callee := .builtin .cap, args := #[x], argTypes := #[T] }, ty, pos, af, g⟩).run P w = .ok (.value (.int .i64 c)) w := by
  simp [execOp, resolve, invoke, builtin, Builtin.cap_, hx, underlying, hT.desc, goInt]
theorem addr_zero (g : Nat) : (⟨g, 0, none⟩ : Addr).add 0 = ⟨g, 0, none⟩ := rfl
/-- The front of a slice. -/
theorem r_sliceTo {x : Operand} {lo : Option Operand} {hi : Operand} {E : TypeId} {sz b len cap : Nat} {ad : Option Addr} (hT : SliceOf P T E sz) (hx : ρ x = .slice ad len cap) (ha : ad = none ∨ ∃ g, ad = some ⟨g, 0, none⟩) (hlo : BndIs (lo.map ρ) 0 0) (hhi : ρ hi = .int .i64 b) (hb : b ≤ cap) :
    (execOp ρ ⟨d, .slice T x lo (some hi) none, ty, pos, af, g⟩).run P w = .ok (.value (.slice ad b cap)) w := by
  obtain ⟨i, hi', his⟩ : ∃ i, P.info? E = some i ∧ i.size = sz := by
    have := hT.info
    cases hi : P.info? E with
    | none => simp [hi] at this
    | some i => simp [hi] at this; exact ⟨i, rfl, this⟩
  have hbnd : (Instr.sliceBounds true len cap (lo.map ρ) ((some hi).map ρ) none).run P w = .ok (0, b, cap) w := by
    have hbi : (b : Int) ≤ (cap : Int) := by omega
    rcases hlo with ⟨e1, _⟩ | e1
    · simp [Instr.sliceBounds, e1, hhi, Instr.sliceBound, asIntOf, hb]
    · simp [Instr.sliceBounds, e1, hhi, Instr.sliceBound, asIntOf, hb]
  simp only [execOp, Instr.sliceAt, Instr.slice, underlying, hx]
  simp only [Option.map_some, hhi] at hbnd
  rcases ha with rfl | ⟨g, rfl⟩ <;> simp [hT.desc, hbnd, sizeOf, typeInfo, hi', his, hhi, addr_zero]
theorem wl_sliceOwn {α : Type} {R : Rep α} {x : Operand} {lo : Option Operand} {hi : Operand} {E : TypeId} {sz b : Nat} {M : List Nat} {l : List α} (hT : SliceOf P T E sz) (hx : ev n env x = v) (hv : OwnSl R E w M v l)
    (hlo : BndIs (lo.map (ev n env)) 0 0) (hhi : ev n env hi = .int .i64 b) (hb : b ≤ l.length) (h : ∀ u, OwnSl R E w M u (l.take b) → ob u = ob v → WL P ops Q rest n (updo env d u) w) :
    WL P ops Q (⟨d, .slice T x lo (some hi) none, ty, pos, af, none⟩ :: rest) n env w := by
  obtain ⟨xs, h1, h2, h3⟩ := hv
  have hxl := h1.1
  have hlt : (l.take b).length = b := by rw [List.length_take]; omega
  have hle : b * R.sz ≤ l.length * R.sz := Nat.mul_le_mul_right _ hb
  have hrd : ∀ (M0 : List Nat) (h0 : ∀ i (h : i < l.length), R.rd w M0 ((xs.drop (i * R.sz)).take R.sz) l[i]), ∀ i (h : i < (l.take b).length), R.rd w M0 (((xs.take (b * R.sz)).drop (i * R.sz)).take R.sz) (l.take b)[i] := by
    intro M0 h0 i hi
    have hi2 : i < b := by omega
    have h5 := h0 i (by omega)
    have hle2 : (i + 1) * R.sz ≤ b * R.sz := Nat.mul_le_mul_right _ hi2
    rw [Nat.add_mul] at hle2
    rw [List.getElem_take]
    rw [List.drop_take, List.take_take, Nat.min_eq_left (by omega)]
    exact h5
  rcases h1.2 with ⟨rfl, hn⟩ | ⟨gg, cap, cur, rfl, e1, e2, e3, e4, e5, e6⟩
  · refine wl_ok (r_sliceTo hT hx (.inl rfl) hlo hhi (by omega)) (h _ ?_ rfl)
    have hb0 : b = 0 := by omega
    subst hb0
    simpa using (OwnSl.nil (R := R) (E := E) (w := w) (M := M))
  · refine wl_ok (r_sliceTo hT hx (.inr ⟨gg, rfl⟩) hlo hhi (by omega)) (h _ ⟨xs.take (b * R.sz), ⟨?_, .inr ⟨gg, cap, cur, ?_, e1, e2, ?_, e4, e5, ?_⟩⟩, ?_, ?_⟩ rfl)
    · rw [hlt, List.length_take, hxl]; omega
    · rw [hlt]
    · omega
    · rw [hlt, ← e6, List.take_take, Nat.min_eq_left hle]
    · exact h2
    · exact hrd _ h3
/-- append(nil, make(..)...), cut back to nothing: room. -/
theorem wl_appendZeros {x y : Operand} {E tn : TypeId} {sz bytes k : Nat} (hT : ElemOf P T E sz bytes) (ht : P.underlying tn = some (.int .i64)) (hx : ev n env x = .slice none 0 0) (hy : ev n env y = .int .i64 k) (hk0 : 0 < k) (hs : 0 < sz) (hb : k * bytes ≤ 140737488355328) (hk : k ≤ maxLen)
    (h : ∀ w' u, Grow w w' → (∃ xs, w'.ownsRow 0 E sz u k xs) → (∀ b ∈ ob u, w.heap.size = b) → WL P ops Q rest n (updo env d u) w') :
    WL P ops Q (⟨d, .call { callee := .builtin .append, args := #[x, y], argTypes := #[T, tn] }, ty, pos, af, none⟩ :: rest) n env w := by
  obtain ⟨i, z, hi, hz, hsz, hby, hzs⟩ := hT.info
  have hk2 : (k : Int) ≤ 9223372036854775807 := by simp only [maxLen] at hk; omega
  have hr := Lib.run_append_nil_zeros (P := P) w T tn ty E i z .i64 .i64 hT.desc ht hi hz k hk0 (by omega) hk2 (by rw [hby]; omega)
  have hrun : (execOp (ev n env) ⟨d, .call { callee := .builtin .append, args := #[x, y], argTypes := #[T, tn] }, ty, pos, af, none⟩).run P w = .ok (.value (.slice (some ⟨w.heap.size, 0, none⟩) k (grownCap w k 0 E))) (w.drew.alloc (.cells (Builtin.zeroCells z.cells k ++ Builtin.zeroCells z.cells (grownCap w k 0 E - k)) E)) := by
    simp only [execOp, resolve, invoke, builtin, Sem.run_bind, Sem.run_pure, Result.andThen_ok, List.map_toArray, List.map_cons, List.map_nil, hx, hy, hr]
  have hge := grownCap_ge w k 0 E
  have hcm : grownCap w k 0 E ≤ maxLen := grownCap_le_maxLen w k 0 E hk
  refine wl_ok hrun (h _ _ ?_ ⟨(Builtin.zeroCells z.cells k).toList, ?_, .inr ⟨w.heap.size, _, _, rfl, Nat.zero_le _, heap_alloc_new w.drew _, hge, hcm, ?_, ?_⟩⟩ ?_)
  · exact (Grow.drew w).trans (Grow.alloc _ _)
  · rw [Array.length_toList, size_zeroCells, hzs]
  · simp only [Array.size_append, size_zeroCells, hzs, ← Nat.add_mul]; congr 1; omega
  · simp only [Array.toList_append]
    rw [show k * sz = (Builtin.zeroCells z.cells k).toList.length by rw [Array.length_toList, size_zeroCells, hzs]]
    exact List.take_left
  · intro b hb; simp [ob] at hb; exact hb.symm
theorem wl_sliceRoom {α : Type} {R : Rep α} {x : Operand} {lo : Option Operand} {hi : Operand} {E : TypeId} {sz k : Nat} {M : List Nat} (hT : SliceOf P T E sz) (hs : R.sz = sz) (hx : ev n env x = v) (hv : ∃ xs, w.ownsRow 0 E sz v k xs) (hM : ∀ b ∈ ob v, b ∉ M)
    (hlo : BndIs (lo.map (ev n env)) 0 0) (hhi : ev n env hi = .int .i64 0) (h : ∀ u, OwnSl R E w M u [] → ob u = ob v → WL P ops Q rest n (updo env d u) w) :
    WL P ops Q (⟨d, .slice T x lo (some hi) none, ty, pos, af, none⟩ :: rest) n env w := by
  subst hs
  obtain ⟨xs, h1⟩ := hv
  rcases h1.2 with ⟨rfl, hn⟩ | ⟨gg, cap, cur, rfl, e1, e2, e3, e4, e5, e6⟩
  · exact wl_ok (r_sliceTo (b := 0) hT hx (.inl rfl) hlo hhi (by omega)) (h _ OwnSl.nil rfl)
  · exact wl_ok (r_sliceTo (b := 0) hT hx (.inr ⟨gg, rfl⟩) hlo hhi (by omega)) (h _ ⟨[], ⟨by simp, .inr ⟨gg, cap, cur, rfl, e1, e2, Nat.zero_le _, e4, e5, by simp⟩⟩, hM, fun i hi => absurd hi (Nat.not_lt_zero _)⟩ rfl)
end
end Go.WX

namespace Go.WX
theorem cellCheck_more {k m n : Int} (h : cellCheck k m n = 0) : cellCheck k m (n + 1) = 0 := by
  unfold cellCheck at h ⊢
  by_cases h0 : k = 0
  · rw [if_pos h0] at h ⊢; exact h
  · rw [if_neg h0] at h ⊢
    by_cases h1 : k = 1
    · rw [if_pos h1] at h ⊢; exact h
    · rw [if_neg h1] at h ⊢
      by_cases h2 : k = 2
      · rw [if_pos h2] at h ⊢
        by_cases h3 : m < 0
        · rw [if_pos h3] at h; omega
        · rw [if_neg h3] at h ⊢
          by_cases h4 : n ≤ m
          · rw [if_pos h4] at h; omega
          · rw [if_neg (by omega)]
      · rw [if_neg h2] at h; omega
theorem checkVals_more {n : Int} : ∀ {l : List Val}, checkVals n l = 0 → checkVals (n + 1) l = 0
  | [], h => h
  | v :: r, h => by
    unfold checkVals at h ⊢
    by_cases hv : cellCheck v.kind v.n n ≠ 0
    · rw [if_pos hv] at h; exact absurd h hv
    · rw [if_neg hv] at h
      rw [if_neg (by rw [cellCheck_more (Decidable.not_not.1 hv)]; exact fun h => h rfl)]
      exact checkVals_more h
theorem checkRows_more {n : Int} : ∀ {l : List (List Val)}, checkRows n l = 0 → checkRows (n + 1) (l ++ [[⟨0, 0⟩]]) = 0
  | [], _ => by simp [checkRows, checkVals, cellCheck]
  | v :: r, h => by
    rw [List.cons_append]
    unfold checkRows at h ⊢
    by_cases h1 : (v.length : Int) = 0
    · rw [if_pos h1] at h; omega
    · rw [if_neg h1] at h ⊢
      by_cases h2 : 4 < (v.length : Int)
      · rw [if_pos h2] at h; omega
      · rw [if_neg h2] at h ⊢
        by_cases hv : checkVals n v ≠ 0
        · rw [if_pos hv] at h; exact absurd h hv
        · rw [if_neg hv] at h
          rw [if_neg (by rw [checkVals_more (Decidable.not_not.1 hv)]; exact fun h => h rfl)]
          exact checkRows_more h
theorem checkAll_more {l : List (List Val)} (h : checkAll l = 0) (hl : l.length < 24) : checkAll (l ++ [[⟨0, 0⟩]]) = 0 := by
  unfold checkAll at h ⊢
  rw [if_neg (by omega)] at h
  rw [if_neg (by rw [List.length_append]; simp only [List.length_cons, List.length_nil]; omega)]
  have := checkRows_more h
  rw [List.length_append]
  exact_mod_cast this
theorem checkAll_rows {l : List (List Val)} (h : checkAll l = 0) : ∀ x : Int, 0 ≤ x → x < l.length → ∀ v ∈ rowOf l x, v.kind = 2 → 0 ≤ v.n ∧ v.n < l.length := by
  intro x h0 h1 v hv hk
  have hx : x.toNat < l.length := by omega
  have e : rowOf l x = l[x.toNat] := rowOf_at (List.getElem?_eq_getElem hx)
  rw [e] at hv
  exact checkVals_all (checkAll_at h (List.getElem?_eq_getElem hx)) v hv hk
theorem reachGo_more {l : List (List Val)} {z : List Val} (h : checkAll l = 0) : ∀ (f : Nat) (o : List Int) (i : Nat), GoodR l.length o → l.length ≤ f + i → reachGo (f + 1) (l ++ [z]) o i = reachGo f l o i := by
  intro f
  induction f with
  | zero =>
    intro o i hg hf
    have := hg.le
    unfold reachGo
    rw [if_neg (by omega)]
  | succ f ih =>
    intro o i hg hf
    conv => lhs; unfold reachGo
    conv => rhs; unfold reachGo
    by_cases hi : i < o.length
    · rw [if_pos hi, if_pos hi]
      have hx := hg.2 _ (List.getElem_mem hi)
      have ho : o.getD i 0 = o[i] := by rw [List.getD_eq_getElem?_getD, List.getElem?_eq_getElem hi]; rfl
      rw [ho]
      have e : (l ++ [z]).getD o[i].toNat [] = l.getD o[i].toNat [] := by
        rw [List.getD_eq_getElem?_getD, List.getD_eq_getElem?_getD, List.getElem?_append_left (by omega)]
      rw [e]
      refine ih _ _ (good_meetAll hg (fun v hv hk => ?_)) (by omega)
      exact checkAll_rows h o[i] hx.1 hx.2 v hv hk
    · rw [if_neg hi, if_neg hi]
theorem reach_more {l : List (List Val)} {from_ : List Val} (h : (reach l from_).2 = 0) (hl : l.length < 24) : reach (l ++ [[⟨0, 0⟩]]) from_ = ((reach l from_).1, 0) := by
  obtain ⟨h1, h2, h3, h4⟩ := reach_ok h
  rw [h4]
  have hlen : ((l ++ [[(⟨0, 0⟩ : Val)]]).length : Int) = l.length + 1 := by rw [List.length_append]; simp
  have hv : checkVals ((l ++ [[(⟨0, 0⟩ : Val)]]).length : Int) from_ = 0 := by rw [hlen]; exact checkVals_more h3
  unfold reach
  rw [if_neg (by rw [checkAll_more h1 hl]; exact fun h => h rfl), if_neg (by omega), if_neg (by rw [hv]; exact fun h => h rfl)]
  have e : (l ++ [[(⟨0, 0⟩ : Val)]]).length = l.length + 1 := by rw [List.length_append]; simp
  rw [e, reachGo_more h1 _ _ _ (good_meetAll good_nil (fun v hv hk => checkVals_all h3 v hv hk)) (by omega)]
theorem reachGo_sub {l : List (List Val)} {t : List Int} (ht : ∀ y ∈ t, ∀ v ∈ rowOf l y, ∀ x, Leads v x → x ∈ t) : ∀ (f : Nat) (o : List Int) (i : Nat), (∀ x ∈ o, x ∈ t) → ∀ x ∈ reachGo f l o i, x ∈ t := by
  intro f
  induction f with
  | zero => intro o i h; exact h
  | succ f ih =>
    intro o i h
    unfold reachGo
    by_cases hi : i < o.length
    · rw [if_pos hi]
      refine ih _ _ (fun x hx => ?_)
      rcases mem_meetAll.1 hx with hx | ⟨v, hv, hl⟩
      · exact h x hx
      · have ho : o.getD i 0 = o[i] := by rw [List.getD_eq_getElem?_getD, List.getElem?_eq_getElem hi]; rfl
        rw [ho] at hv
        exact ht o[i] (h _ (List.getElem_mem hi)) v hv x hl
    · rw [if_neg hi]; exact h
theorem reachGo_pre {l : List (List Val)} : ∀ (f : Nat) (o : List Int) (i : Nat), ∃ t, reachGo f l o i = o ++ t := by
  intro f
  induction f with
  | zero => intro o i; exact ⟨[], by simp [reachGo]⟩
  | succ f ih =>
    intro o i
    unfold reachGo
    by_cases hi : i < o.length
    · rw [if_pos hi]
      obtain ⟨t, ht⟩ := pre_meetAll (l := l.getD (o.getD i 0).toNat []) (o := o)
      obtain ⟨u, hu⟩ := ih (meetAll o (l.getD (o.getD i 0).toNat [])) (i + 1)
      exact ⟨t ++ u, by rw [hu, ht, List.append_assoc]⟩
    · rw [if_neg hi]; exact ⟨[], by simp⟩
theorem meetAll_app {a b : List Val} : ∀ {o : List Int}, meetAll o (a ++ b) = meetAll (meetAll o a) b := by
  induction a with
  | nil => intro o; rfl
  | cons x r ih => intro o; exact ih
theorem reach_sub {l : List (List Val)} {a b : List Val} (h1 : (reach l a).2 = 0) (h2 : (reach l ([a, b].flatten)).2 = 0) : ∀ x ∈ (reach l a).1, x ∈ (reach l ([a, b].flatten)).1 := by
  have hc := reach_closed h2
  rw [(reach_ok h1).2.2.2]
  refine reachGo_sub hc.closed _ _ _ (fun x hx => ?_)
  rcases mem_meetAll.1 hx with hx | ⟨v, hv, hl⟩
  · cases hx
  · exact hc.begins v (by simp [hv]) x hl
theorem reach_first {l : List (List Val)} {a b : List Val} (h1 : (reach l a).2 = 0) (h2 : (reach l ([a, b].flatten)).2 = 0) {x : Int} (hx : (reach l a).1[0]? = some x) : (reach l ([a, b].flatten)).1[0]? = some x := by
  obtain ⟨_, _, _, e1⟩ := reach_ok h1
  obtain ⟨_, _, _, e2⟩ := reach_ok h2
  have hf : [a, b].flatten = a ++ b := by simp
  rw [e2, hf, meetAll_app]
  rw [e1] at hx
  cases ho : meetAll [] a with
  | nil =>
    rw [ho, reachGo_done (by simp)] at hx
    simp at hx
  | cons y r =>
    rw [ho] at hx
    obtain ⟨t, ht⟩ := reachGo_pre (l := l) l.length (y :: r) 0
    rw [ht] at hx
    obtain ⟨u, hu⟩ := pre_meetAll (l := b) (o := y :: r)
    obtain ⟨s, hs⟩ := reachGo_pre (l := l) l.length (meetAll (y :: r) b) 0
    rw [hs, hu]
    simpa using hx
theorem reach_some {l : List (List Val)} {a b : List Val} (h1 : (reach l a).2 = 0) (h2 : (reach l ([a, b].flatten)).2 = 0) (h : ¬ ((reach l a).1.length : Int) = 0) : (0 : Int) < (reach l ([a, b].flatten)).1.length := by
  cases hr : (reach l a).1 with
  | nil => rw [hr] at h; simp at h
  | cons x r =>
    have := reach_first h1 h2 (x := x) (by rw [hr]; rfl)
    rcases Nat.eq_zero_or_pos (reach l ([a, b].flatten)).1.length with h3 | h3
    · rw [List.getElem?_eq_none (by omega)] at this; cases this
    · omega
end Go.WX

namespace Go.WX
open Go.RowKit
section
variable {P : Program} {ops : Array Oper} {C : World → Prop} {Q : Exit → Act → World → Prop} {Q1 : Act → Prop} {n : Nat} {env : Nat → Value} {w : World} {rest : List Oper}
  {d : Option Nat} {op : Op} {ty : TypeId} {pos : String} {af : Array Edge}
theorem yielded_undef {j dj : Nat} (hd : (ops[j]?).bind (·.dst) = some dj) (hv : ev n env (.tmp dj) = undef) : yielded ops (act n env).tmps j = none := by
  unfold yielded
  have h1 : (act n env).eval (.tmp dj) = undef := by rw [act_eval]; exact hv
  simp only [hd, Option.bind_some]
  simp only [Act.eval] at h1
  cases h2 : (act n env).tmps[dj]? with
  | none => rfl
  | some v =>
    have h3 : v = undef := by simpa [Array.getD_eq_getD_getElem?, h2] using h1
    subst h3
    rfl
theorem wl_offU {j dj : Nat} {b : Bool} (hd : (ops[j]?).bind (·.dst) = some dj) (hv : ev n env (.tmp dj) = undef)
    (h : WL P ops Q rest n (updo env d undef) w) : WL P ops Q (⟨d, op, ty, pos, af, some (j, b)⟩ :: rest) n env w := by
  have hy := yielded_undef (ops := ops) hd hv
  have hw : Region.wanted ⟨d, op, ty, pos, af, some (j, b)⟩ (yielded ops (act n env).tmps) = false := by simp [Region.wanted, hy]
  refine ⟨?_⟩
  unfold wpList
  rw [if_neg (by rw [hw]; decide), act_put]
  exact h.out
theorem wq_offU {j dj : Nat} {b : Bool} (hd : (ops[j]?).bind (·.dst) = some dj) (hv : ev n env (.tmp dj) = undef) (h : WQ P ops C Q1 rest n (updo env d undef)) : WQ P ops C Q1 (⟨d, op, ty, pos, af, some (j, b)⟩ :: rest) n env := by
  have hy := yielded_undef (ops := ops) hd hv
  have hw : Region.wanted ⟨d, op, ty, pos, af, some (j, b)⟩ (yielded ops (act n env).tmps) = false := by simp [Region.wanted, hy]
  refine ⟨?_⟩
  unfold wpQuiet
  rw [if_neg (by rw [hw]; decide), act_put]
  exact h.out
end
end Go.WX

