/-
  Our own library: what memory holds, piece by piece; walks told by what they hand over. Nothing here is of one program.
-/
import Derived.WalkKit
import Derived.Laws.StructEq
import Derived.ChangeKeysEq
import Derived.StillTail
import Derived.LoopN
import Derived.Deep.Quiet
import Derived.OrdersHeld
import Derived.Deep.RegionHeld3
import Derived.Deep.Slices
set_option linter.unusedSimpArgs false
set_option linter.unusedVariables false
namespace Go.LX
open Go.RowKit

def act (n : Nat) (env : Nat → Value) : Act := { tmps := Array.ofFn (n := n) fun i => env i.val, defers := [] }
def upd (env : Nat → Value) (d : Nat) (v : Value) : Nat → Value := fun i => bif Nat.beq i d then v else env i
def ev (n : Nat) (env : Nat → Value) : Operand → Value
  | .tmp t => bif Nat.blt t n then env t else undef
  | .const v => v
  | .global g => .pointer (some ⟨g, 0, none⟩)
  | .func f => .func (.func f) #[] #[]
def updo (env : Nat → Value) : Option Nat → Value → (Nat → Value)
  | some d, v => upd env d v
  | none, _ => env

theorem act_eval (n : Nat) (env : Nat → Value) : (act n env).eval = ev n env := by
  funext x
  cases x with
  | tmp t =>
    by_cases h : t < n
    · have hb : Nat.blt t n = true := by rw [Nat.blt_eq]; exact h
      simp [Act.eval, act, ev, h, hb]
    · have hb : Nat.blt t n = false := by rw [Bool.eq_false_iff, ne_eq, Nat.blt_eq]; exact h
      simp [Act.eval, act, ev, h, hb]
  | _ => rfl
theorem act_put (n : Nat) (env : Nat → Value) (d : Option Nat) (v : Value) : (act n env).put d v = act n (updo env d v) := by
  cases d with
  | none => rfl
  | some d =>
    simp only [Act.put, act, updo, Act.mk.injEq, and_true]
    apply Array.ext
    · simp
    · intro i h1 h2
      simp at h1
      have h3 : i < (Array.ofFn (n := n) fun i => env i.val).size := by simp; exact h1
      rw [Array.getElem_setIfInBounds h3]
      by_cases hd : d = i
      · subst hd; simp [upd, Nat.beq_refl]
      · have hb : Nat.beq i d = false := by rw [Bool.eq_false_iff]; intro h; exact hd (Nat.eq_of_beq_eq_true h).symm
        simp [hd, upd, hb]
def env0 (args : List Value) : Nat → Value := fun i => args.getD i undef
theorem act_init (n : Nat) (args : List Value) (h : args.length ≤ n) : ({ tmps := args.toArray ++ Array.replicate (n - args.toArray.size) undef, defers := [] } : Act) = act n (env0 args) := by
  simp only [act, Act.mk.injEq, and_true]
  apply Array.ext
  · simp; omega
  · intro i h1 h2
    simp [Array.getElem_append, env0, List.getD]
    by_cases hi : i < args.length
    · simp [hi]
    · simp [hi]
end Go.LX

namespace Go.LX
open Go.RowKit
structure WL (P : Program) (ops : Array Oper) (Q : Exit → Act → World → Prop) (l : List Oper) (n : Nat) (env : Nat → Value) (w : World) : Prop where
  out : wpList P ops Q l (act n env) w
structure WC (P : Program) (c : Code) (Q : Exit → Act → World → Prop) (n : Nat) (env : Nat → Value) (w : World) : Prop where
  out : c.wp P Q (act n env) w
section
variable {P : Program} {ops : Array Oper} {Q : Exit → Act → World → Prop} {n : Nat} {env : Nat → Value} {w w' : World} {rest : List Oper}
  {d : Option Nat} {op : Op} {ty : TypeId} {pos : String} {af : Array Edge} {v : Value} {g : Option (Nat × Bool)}

theorem wl_ok (hr : (execOp (ev n env) ⟨d, op, ty, pos, af, none⟩).run P w = .ok (.value v) w') (h : WL P ops Q rest n (updo env d v) w') :
    WL P ops Q (⟨d, op, ty, pos, af, none⟩ :: rest) n env w := by
  refine ⟨wpList_plain rfl fun K hK => ?_⟩
  unfold Oper.wp
  rw [act_eval, hr]
  show K _ _
  rw [act_put]
  exact hK _ _ h.out
theorem wl_skip (hr : (execOp (ev n env) ⟨d, op, ty, pos, af, none⟩).run P w = .ok .skip w') (h : WL P ops Q rest n (updo env d undef) w') :
    WL P ops Q (⟨d, op, ty, pos, af, none⟩ :: rest) n env w := by
  refine ⟨wpList_plain rfl fun K hK => ?_⟩
  unfold Oper.wp
  rw [act_eval, hr]
  show K _ _
  rw [act_put]
  exact hK _ _ h.out
theorem wl_enter {f : FuncId} {args : Array Value} {R : Ending → World → Prop} (hr : (execOp (ev n env) ⟨d, op, ty, pos, af, none⟩).run P w = .ok (.enter f args) w) (hc : Calls P f args w R)
    (h : ∀ e w', R e w' → ∃ v, e = .returned v ∧ WL P ops Q rest n (updo env d v) w') :
    WL P ops Q (⟨d, op, ty, pos, af, none⟩ :: rest) n env w := by
  refine ⟨wpList_plain rfl fun K hK => ?_⟩
  unfold Oper.wp
  rw [act_eval, hr]
  show Calls P f args w _
  refine hc.mono fun e w' he => ?_
  obtain ⟨v, rfl, hv⟩ := h e w' he
  show K _ _
  rw [act_put]
  exact hK _ _ hv.out
theorem yielded_of {j dj : Nat} {b : Bool} (hd : (ops[j]?).bind (·.dst) = some dj) (hv : ev n env (.tmp dj) = .bool b) : yielded ops (act n env).tmps j = some b := by
  unfold yielded
  have h1 : (act n env).eval (.tmp dj) = .bool b := by rw [act_eval]; exact hv
  simp only [hd, Option.bind_some]
  simp only [Act.eval] at h1
  cases h2 : (act n env).tmps[dj]? with
  | none => simp [Array.getD_eq_getD_getElem?, h2, undef] at h1
  | some x => simp [Array.getD_eq_getD_getElem?, h2] at h1; subst h1; rfl
theorem wl_on {j dj : Nat} {b : Bool} (hd : (ops[j]?).bind (·.dst) = some dj) (hv : ev n env (.tmp dj) = .bool b)
    (h : WL P ops Q (⟨d, op, ty, pos, af, none⟩ :: rest) n env w) : WL P ops Q (⟨d, op, ty, pos, af, some (j, b)⟩ :: rest) n env w := by
  have hy := yielded_of (ops := ops) hd hv
  have hw : Region.wanted ⟨d, op, ty, pos, af, some (j, b)⟩ (yielded ops (act n env).tmps) = true := by simp [Region.wanted, hy]
  have hw0 : Region.wanted ⟨d, op, ty, pos, af, none⟩ (yielded ops (act n env).tmps) = true := rfl
  obtain ⟨h⟩ := h
  refine ⟨?_⟩
  unfold wpList at h ⊢
  rw [if_pos hw0] at h
  rw [if_pos hw]
  exact h
theorem wl_off {j dj : Nat} {b b' : Bool} (hd : (ops[j]?).bind (·.dst) = some dj) (hv : ev n env (.tmp dj) = .bool b') (hb : (b' == b) = false)
    (h : WL P ops Q rest n (updo env d undef) w) : WL P ops Q (⟨d, op, ty, pos, af, some (j, b)⟩ :: rest) n env w := by
  have hy := yielded_of (ops := ops) hd hv
  have hw : Region.wanted ⟨d, op, ty, pos, af, some (j, b)⟩ (yielded ops (act n env).tmps) = false := by simpa [Region.wanted, hy] using hb
  refine ⟨?_⟩
  unfold wpList
  rw [if_neg (by rw [hw]; decide), act_put]
  exact h.out
theorem wl_nil (h : Q .normal (act n env) w) : WL P ops Q [] n env w := ⟨h⟩
end
section
variable {P : Program} {Q : Exit → Act → World → Prop} {n : Nat} {env : Nat → Value} {w : World} {x y : Code}
theorem wc_region {id : Nat} {l : List Oper} (h : WL P l.toArray Q l n env w) : WC P (Code.region id l.toArray false) Q n env w := ⟨wp_region_lit h.out⟩
theorem wc_seq (h : WC P x (Exit.then (y.wp P Q) Q) n env w) : WC P (Code.seq x y) Q n env w := ⟨wp_seq h.out⟩
theorem wc_block {id : Nat} (h : WC P x (Exit.inBlock id Q) n env w) : WC P (Code.block id x) Q n env w := ⟨wp_block h.out⟩
theorem wc_skip (h : Q .normal (act n env) w) : WC P .skip Q n env w := ⟨wp_skip h⟩
theorem wc_ret (h : Q .ret (act n env) w) : WC P .ret Q n env w := ⟨wp_ret h⟩
theorem wc_exit {id : Nat} (h : Q (.exit id) (act n env) w) : WC P (.exit id) Q n env w := ⟨wp_exit h⟩
theorem wc_if {c : Operand} {t : Bool} (hc : ev n env c = .bool t) (h1 : t = true → WC P x Q n env w) (h2 : t = false → WC P y Q n env w) :
    WC P (Code.cond c x y) Q n env w := ⟨wp_cond_split (by rw [act_eval]; exact hc) (fun h => (h1 h).out) (fun h => (h2 h).out)⟩
theorem wc_ifd {c : Operand} {p : Prop} [Decidable p] (hc : ev n env c = .bool (decide p)) (h1 : p → WC P x Q n env w) (h2 : ¬ p → WC P y Q n env w) :
    WC P (Code.cond c x y) Q n env w := wc_if hc (fun h => h1 (of_decide_eq_true h)) (fun h => h2 (of_decide_eq_false h))
theorem wc_ift {c : Operand} (hc : ev n env c = .bool true) (h1 : WC P x Q n env w) : WC P (Code.cond c x y) Q n env w := ⟨wp_cond_true (by rw [act_eval]; exact hc) h1.out⟩
theorem wc_iff {c : Operand} (hc : ev n env c = .bool false) (h1 : WC P y Q n env w) : WC P (Code.cond c x y) Q n env w := ⟨wp_cond_false (by rw [act_eval]; exact hc) h1.out⟩
theorem then_normal {Q' : Exit → Act → World → Prop} (h : WC P y Q n env w) : Exit.then (y.wp P Q) Q' .normal (act n env) w := h.out

def hav (mod : Nat → Bool) (junk entry : Nat → Value) : Nat → Value := fun i => bif mod i then junk i else entry i
def upds (e : Nat → Value) : List (Nat × Value) → Nat → Value
  | [] => e
  | (i, v) :: r => upd (upds e r) i v
def Holds (e : Nat → Value) : List (Nat × Value) → Prop
  | [] => True
  | (i, v) :: r => e i = v ∧ Holds e r
def Agr (mod : Nat → Bool) (e entry : Nat → Value) : Prop := ∀ i, mod i = false → e i = entry i
theorem Agr.refl (mod : Nat → Bool) (e : Nat → Value) : Agr mod e e := fun _ _ => rfl
theorem Agr.hav (mod : Nat → Bool) (j e : Nat → Value) : Agr mod (hav mod j e) e := fun i h => by simp [LX.hav, h]
theorem Agr.upd {mod : Nat → Bool} {e entry : Nat → Value} {d : Nat} {v : Value} (hd : mod d = true) (h : Agr mod e entry) : Agr mod (upd e d v) entry := fun i hi => by
  have : i ≠ d := fun e => by rw [e, hd] at hi; exact Bool.noConfusion hi
  have hb : Nat.beq i d = false := by rw [Bool.eq_false_iff]; intro h; exact this (Nat.eq_of_beq_eq_true h)
  simp [LX.upd, hb, h i hi]
theorem upd_self (e : Nat → Value) {i : Nat} {v : Value} (h : e i = v) : upd e i v = e := by
  funext k
  by_cases hk : Nat.beq k i = true
  · have := Nat.eq_of_beq_eq_true hk; subst this; simp [upd, h]
  · simp [upd, hk]
theorem hav_self {mod : Nat → Bool} {e entry : Nat → Value} (h : Agr mod e entry) : hav mod e entry = e := by
  funext i
  cases hm : mod i with
  | true => simp [hav, hm]
  | false => simp [hav, hm, h i hm]
theorem upds_self {e : Nat → Value} : ∀ (l : List (Nat × Value)), Holds e l → upds e l = e
  | [], _ => rfl
  | (i, v) :: r, h => by
    show upd (upds e r) i v = e
    rw [upds_self r h.2]
    exact upd_self e h.1
/-- The loop: σ: what the rounds' heads are told by; live: the slots that hold something of it. -/
theorem wc_loop {σ : Type} {c : Code} (mod : Nat → Bool) (live : σ → List (Nat × Value)) (J : σ → World → Prop) (μ : σ → Nat) (s0 : σ)
    (hl : Holds env (live s0)) (hJ : J s0 w)
    (round : ∀ s wr junk, J s wr → WC P c (Exit.then (fun a' w' => ∃ s' e', a' = act n e' ∧ Agr mod e' env ∧ Holds e' (live s') ∧ J s' w' ∧ μ s' < μ s) Q) n (upds (hav mod junk env) (live s)) wr) :
    WC P (Code.loop c) Q n env w := by
  refine ⟨?_⟩
  intro b k cs
  have key : ∀ m s e w, μ s = m → Agr mod e env → Holds e (live s) → J s w →
      ∃ ex a' w', Q ex a' w' ∧ Arrives P (lone (b.at (act n e) (.code c :: .inLoop c :: k)) cs w) b k cs ex a' w' := by
    intro m
    induction m using Nat.strongRecOn with
    | _ m ih =>
      intro s e w hm hA hH hj
      have hr := (round s w e hj).out
      have hee : upds (hav mod e env) (live s) = e := by rw [hav_self hA]; exact upds_self _ hH
      rw [hee] at hr
      obtain ⟨ex, a₁, w₁, hq, harr⟩ := hr b (.inLoop c :: k) cs
      cases ex with
      | normal =>
        obtain ⟨s', e', rfl, hA', hH', hJ', hlt⟩ := hq
        obtain ⟨e₂, a₂, w₂, hq₂, harr₂⟩ := ih (μ s') (hm ▸ hlt) s' e' w₁ rfl hA' hH' hJ'
        exact ⟨e₂, a₂, w₂, hq₂, .of_steps (Steps.trans harr (.one step_inLoop)) harr₂⟩
      | exit id => exact ⟨_, a₁, w₁, hq, .pass (x := .inLoop c) rfl (fun _ _ => .inl (by simp)) harr⟩
      | goto l => exact ⟨_, a₁, w₁, hq, .pass (x := .inLoop c) rfl (fun _ _ => .inl (by simp)) harr⟩
      | ret => exact ⟨_, a₁, w₁, hq, .pass (x := .inLoop c) rfl (fun _ _ => .inl (by simp)) harr⟩
      | panic ch => exact ⟨_, a₁, w₁, hq, .pass (x := .inLoop c) rfl (fun _ _ => .inl (by simp)) harr⟩
      | outgrown => exact ⟨_, a₁, w₁, hq, .pass (x := .inLoop c) rfl (fun _ _ => .inl (by simp)) harr⟩
  obtain ⟨ex, a', w', hq, harr⟩ := key _ s0 env w rfl (Agr.refl _ _) hl hJ
  exact ⟨ex, a', w', hq, .of_steps (.one step_loop) harr⟩
end
end Go.LX

namespace Go.LX
open Go.RowKit
/-- A type of one cell; z: its zero. -/
structure One (P : Program) (T : TypeId) (z : Value) : Prop where
  desc : ∃ d, P.underlying T = some d ∧ (match d with | .struct _ | .array _ _ => False | _ => True)
  info : (P.info? T).map (fun i => (i.zero, i.size)) = some (some z, 1)
  cell : z.cells = #[z]
/-- A type of several cells, zs: its zero. -/
structure Many (P : Program) (T : TypeId) (zs : List Value) : Prop where
  desc : ∃ d, P.underlying T = some d ∧ (match d with | .struct _ | .array _ _ => True | _ => False)
  info : (P.info? T).map (fun i => (i.zero, i.size)) = some (some (.agg zs.toArray), zs.length)
structure SliceOf (P : Program) (T E : TypeId) (sz : Nat) : Prop where
  desc : P.underlying T = some (.slice E)
  info : (P.info? E).map (·.size) = some sz
structure FieldAt (P : Program) (T : TypeId) (k off : Nat) : Prop where
  desc : ∃ fs f s, P.underlying T = some (.struct fs) ∧ fs[k]? = some f ∧ f.offset = off ∧ (P.info? f.type).map (·.size) = some (s + 1)
section
variable {P : Program} {w : World} {ρ : Operand → Value} {d : Option Nat} {ty : TypeId} {pos : String} {af : Array Edge} {g : Option (Nat × Bool)}
theorem r_move {x : Operand} {v : Value} (hx : ρ x = v) : (execOp ρ ⟨d, .move x, ty, pos, af, g⟩).run P w = .ok (.value v) w := by subst hx; rfl
theorem r_assign {x : Operand} {v : Value} (hx : ρ x = v) : (execOp ρ ⟨d, .assign x, ty, pos, af, g⟩).run P w = .ok (.value v) w := by subst hx; rfl
theorem r_pick {c x y : Operand} {b : Bool} {v : Value} (hc : ρ c = .bool b) (hv : (if b then ρ x else ρ y) = v) : (execOp ρ ⟨d, .pick c x y, ty, pos, af, g⟩).run P w = .ok (.value v) w := by
  subst hv; simp [execOp, hc, asBool]
theorem r_not {x : Operand} {T : TypeId} {b : Bool} (hx : ρ x = .bool b) : (execOp ρ ⟨d, .unOp .not T x, ty, pos, af, g⟩).run P w = .ok (.value (.bool !b)) w := by
  simp [execOp, hx, Op.unary]
theorem wrap_in {x : Int} (h1 : -9223372036854775808 ≤ x) (h2 : x ≤ 9223372036854775807) : IntKind.i64.wrap x = x := IntWalk.i64_in x ⟨h1, h2⟩
theorem r_lss {x y : Operand} {T T2 : TypeId} {p q : Int} (hx : ρ x = .int .i64 p) (hy : ρ y = .int .i64 q) : (execOp ρ ⟨d, .binOp .lss T x y T2, ty, pos, af, g⟩).run P w = .ok (.value (.bool (decide (p < q)))) w := by
  simp [execOp, hx, hy, eqGuard, binOp, Op.intCmp]
theorem r_leq {x y : Operand} {T T2 : TypeId} {p q : Int} (hx : ρ x = .int .i64 p) (hy : ρ y = .int .i64 q) : (execOp ρ ⟨d, .binOp .leq T x y T2, ty, pos, af, g⟩).run P w = .ok (.value (.bool (decide (p ≤ q)))) w := by
  simp [execOp, hx, hy, eqGuard, binOp, Op.intCmp]
theorem r_gtr {x y : Operand} {T T2 : TypeId} {p q : Int} (hx : ρ x = .int .i64 p) (hy : ρ y = .int .i64 q) : (execOp ρ ⟨d, .binOp .gtr T x y T2, ty, pos, af, g⟩).run P w = .ok (.value (.bool (decide (q < p)))) w := by
  simp [execOp, hx, hy, eqGuard, binOp, Op.intCmp]
theorem r_geq {x y : Operand} {T T2 : TypeId} {p q : Int} (hx : ρ x = .int .i64 p) (hy : ρ y = .int .i64 q) : (execOp ρ ⟨d, .binOp .geq T x y T2, ty, pos, af, g⟩).run P w = .ok (.value (.bool (decide (q ≤ p)))) w := by
  simp [execOp, hx, hy, eqGuard, binOp, Op.intCmp]
theorem r_eql {x y : Operand} {T T2 : TypeId} {p q : Int} {k : IntKind} (hx : ρ x = .int k p) (hy : ρ y = .int k q) : (execOp ρ ⟨d, .binOp .eql T x y T2, ty, pos, af, g⟩).run P w = .ok (.value (.bool (decide (p = q)))) w := by
  simp [execOp, hx, hy, eqGuard, binOp, Op.intCmp]; rfl
theorem r_neq {x y : Operand} {T T2 : TypeId} {p q : Int} {k : IntKind} (hx : ρ x = .int k p) (hy : ρ y = .int k q) : (execOp ρ ⟨d, .binOp .neq T x y T2, ty, pos, af, g⟩).run P w = .ok (.value (.bool (decide (p ≠ q)))) w := by
  simp [execOp, hx, hy, eqGuard, binOp, Op.intCmp]; rfl
theorem r_add {x y : Operand} {T T2 : TypeId} {p q : Int} (hx : ρ x = .int .i64 p) (hy : ρ y = .int .i64 q) (h : -9223372036854775808 ≤ p + q ∧ p + q ≤ 9223372036854775807) :
    (execOp ρ ⟨d, .binOp .add T x y T2, ty, pos, af, g⟩).run P w = .ok (.value (.int .i64 (p + q))) w := by
  simp [execOp, hx, hy, eqGuard, binOp, Op.intArith, wrap_in h.1 h.2]
theorem r_sub {x y : Operand} {T T2 : TypeId} {p q : Int} (hx : ρ x = .int .i64 p) (hy : ρ y = .int .i64 q) (h : -9223372036854775808 ≤ p - q ∧ p - q ≤ 9223372036854775807) :
    (execOp ρ ⟨d, .binOp .sub T x y T2, ty, pos, af, g⟩).run P w = .ok (.value (.int .i64 (p - q))) w := by
  simp [execOp, hx, hy, eqGuard, binOp, Op.intArith, wrap_in h.1 h.2]
theorem r_len_slice {x : Operand} {T E : TypeId} {sz : Nat} {a : Option Addr} {l c : Nat} (hT : SliceOf P T E sz) (hx : ρ x = .slice a l c) :
    (execOp ρ ⟨d, .call { callee := .builtin .len, args := #[x], argTypes := #[T] }, ty, pos, af, g⟩).run P w = .ok (.value (.int .i64 l)) w := by
  simp [execOp, resolve, invoke, builtin, Builtin.len_, hx, underlying, hT.desc, goInt]
theorem r_load1 {x : Operand} {T : TypeId} {z v : Value} {b o : Nat} {cs : Array Value} {E : TypeId} {fz : Nat × Nat} (hT : One P T z) (hx : ρ x = .pointer (some ⟨b, o, none⟩)) (hb : w.heap[b]? = some (.cells cs E fz)) (hv : cs[o]? = some v) :
    (execOp ρ ⟨d, .load T x, ty, pos, af, g⟩).run P w = .ok (.value v) w := by
  obtain ⟨dd, hd, hm⟩ := hT.desc
  have hc : w.cell? ⟨b, o, none⟩ = some v := by simp [World.cell?, hb, hv]
  cases dd <;> simp_all [execOp, Instr.loadAt, Instr.sureAddr, loadVar, isAgg, underlying]
end
end Go.LX

namespace Go.LX
open Go.RowKit
abbrev BS := Nat → Prop
abbrev BE : BS := fun _ => False
/-- Old blocks but those of K are as they were. -/
structure Keep (K : BS) (w w' : World) : Prop where
  os : w'.os = w.os
  tape : w'.tape = w.tape
  output : w'.output = w.output
  size : w.heap.size ≤ w'.heap.size
  block : ∀ b, ¬ K b → b < w.heap.size → w'.heap[b]? = w.heap[b]?
abbrev Grow (w w' : World) : Prop := Keep BE w w'
theorem Keep.refl (K : BS) (w : World) : Keep K w w := ⟨rfl, rfl, rfl, Nat.le_refl _, fun _ _ _ => rfl⟩
/-- The second step may write what is new since the first world, or what K lists. -/
theorem Keep.step {K N : BS} {a b c : World} (h : Keep K a b) (k : Keep N b c) (hN : ∀ x, N x → x < a.heap.size → K x) : Keep K a c :=
  ⟨k.os.trans h.os, k.tape.trans h.tape, k.output.trans h.output, Nat.le_trans h.size k.size, fun i hm hi => (k.block i (fun hn => hm (hN i hn hi)) (Nat.lt_of_lt_of_le hi h.size)).trans (h.block i hm hi)⟩
theorem Keep.grow {K : BS} {a b c : World} (h : Keep K a b) (k : Grow b c) : Keep K a c := h.step k (fun _ h => h.elim)
theorem Keep.weaken {K N : BS} {a b : World} (h : Keep K a b) (hs : ∀ x, K x → x < a.heap.size → N x) : Keep N a b := ⟨h.os, h.tape, h.output, h.size, fun i hm hi => h.block i (fun hn => hm (hs i hn hi)) hi⟩
theorem Grow.keep {K : BS} {a b : World} (h : Grow a b) : Keep K a b := h.weaken (fun _ h => h.elim)
theorem lt_of_blk {w : World} {b : Nat} {o : Obj} (hb : w.heap[b]? = some o) : b < w.heap.size := by
  rcases Nat.lt_or_ge b w.heap.size with h1 | h1
  · exact h1
  · rw [Array.getElem?_eq_none h1] at hb; cases hb
theorem Keep.blk {K : BS} {w w' : World} (h : Keep K w w') {b : Nat} {o : Obj} (hb : w.heap[b]? = some o) (hm : ¬ K b) : w'.heap[b]? = some o := by
  rw [h.block b hm (lt_of_blk hb), hb]
theorem Grow.blk {w w' : World} (h : Grow w w') {b : Nat} {o : Obj} (hb : w.heap[b]? = some o) : w'.heap[b]? = some o := Keep.blk h hb (fun h => h)
theorem Grow.below {w w' : World} (h : Grow w w') : Below w.heap.size w w' := ⟨h.os, h.tape, h.output, h.size, fun k hk => h.block k (fun h => h) hk⟩
theorem Grow.of_below {w w' : World} (h : Below w.heap.size w w') : Grow w w' := ⟨h.os, h.tape, h.output, h.size, fun k _ hk => h.block k hk⟩
theorem Grow.alloc (w : World) (o : Obj) : Grow w (w.alloc o) := Grow.of_below ((Below.refl _ _).alloc (Nat.le_refl _) o)
theorem alloc_blk (w : World) (o : Obj) : (w.alloc o).heap[w.heap.size]? = some o := by show (w.heap.push o)[w.heap.size]? = some o; simp
theorem alloc_size (w : World) (o : Obj) : (w.alloc o).heap.size = w.heap.size + 1 := by show (w.heap.push o).size = _; simp
theorem Grow.drew (w : World) : Grow w w.drew := ⟨rfl, rfl, rfl, Nat.le_refl _, fun _ _ _ => rfl⟩
theorem Grow.trans {a b c : World} (h : Grow a b) (k : Grow b c) : Grow a c := h.grow k
/-- How a datum lies in cells: sz cells; A: blocks that its reading does not touch. -/
structure Rep (α : Type) where
  sz : Nat
  rd : World → BS → List Value → α → Prop
  len : ∀ {w A cs x}, rd w A cs x → cs.length = sz
  one : ∀ {w A cs x}, rd w A cs x → ∀ u ∈ cs, u.oneCell' = true
  pos : 0 < sz
  go : ∀ {w A cs x w' A' K}, rd w A cs x → Keep K w w' → (∀ b, K b → b < w.heap.size → A b) → (∀ b, A' b → b < w.heap.size → A b) → rd w' A' cs x
/-- The value v is a slice of such data; its row's block is none of B, its elements avoid A. -/
def Rd2 {α : Type} (R : Rep α) (w : World) (B A : BS) (v : Value) (l : List α) : Prop :=
  ∃ a cap, v = .slice a l.length cap ∧ l.length ≤ cap ∧ cap ≤ maxLen ∧ (a = none → cap = 0) ∧
    ∀ i (h : i < l.length), ∃ b o cells E fz, a = some ⟨b, o, none⟩ ∧ ¬ B b ∧ w.heap[b]? = some (.cells cells E fz) ∧ R.rd w A ((cells.toList.drop (o + i * R.sz)).take R.sz) l[i]
abbrev RdSl {α : Type} (R : Rep α) (w : World) (A : BS) (v : Value) (l : List α) : Prop := Rd2 R w A A v l
theorem Rd2.go {α : Type} {R : Rep α} {w w' : World} {B B' A A' K : BS} {v : Value} {l : List α} (h : Rd2 R w B A v l) (hk : Keep K w w') (hKB : ∀ b, K b → b < w.heap.size → B b) (hK : ∀ b, K b → b < w.heap.size → A b) (hB : ∀ b, B' b → b < w.heap.size → B b) (hA : ∀ b, A' b → b < w.heap.size → A b) : Rd2 R w' B' A' v l := by
  obtain ⟨a, cap, rfl, h1, h2, h3, h4⟩ := h
  refine ⟨a, cap, rfl, h1, h2, h3, fun i hi => ?_⟩
  obtain ⟨b, o, cells, E, fz, e1, e2, e3, e4⟩ := h4 i hi
  exact ⟨b, o, cells, E, fz, e1, fun h => e2 (hB b h (lt_of_blk e3)), hk.blk e3 (fun h => e2 (hKB b h (lt_of_blk e3))), R.go e4 hk hK hA⟩
theorem Rd2.sub {α : Type} {R : Rep α} {w : World} {B B' A A' : BS} {v : Value} {l : List α} (h : Rd2 R w B A v l) (hB : ∀ b, B' b → b < w.heap.size → B b) (hA : ∀ b, A' b → b < w.heap.size → A b) : Rd2 R w B' A' v l :=
  h.go (Keep.refl BE w) (fun _ h => h.elim) (fun _ h => h.elim) hB hA
theorem Rd2.src {α : Type} {R : Rep α} {w : World} {B A : BS} {v : Value} {l : List α} (h : Rd2 R w B A v l) : Rd2 R w BE A v l := h.sub (fun _ h => h.elim) (fun _ h _ => h)
theorem RdSl.go {α : Type} {R : Rep α} {w w' : World} {A A' K : BS} {v : Value} {l : List α} (h : RdSl R w A v l) (hk : Keep K w w') (hK : ∀ b, K b → b < w.heap.size → A b) (hA : ∀ b, A' b → b < w.heap.size → A b) : RdSl R w' A' v l :=
  Rd2.go h hk hK hK hA hA
theorem Rd2.one {α : Type} {R : Rep α} {w : World} {B A : BS} {v : Value} {l : List α} (h : Rd2 R w B A v l) : v.oneCell' = true := by
  obtain ⟨a, cap, rfl, _⟩ := h
  rfl
theorem Rd2.nil {α : Type} {R : Rep α} {w : World} {B A : BS} : Rd2 R w B A (.slice none 0 0) ([] : List α) := ⟨none, 0, rfl, Nat.le_refl _, by unfold maxLen; omega, fun _ => rfl, fun i hi => absurd hi (Nat.not_lt_zero _)⟩
theorem Rd2.len_le {α : Type} {R : Rep α} {w : World} {B A : BS} {v : Value} {l : List α} (h : Rd2 R w B A v l) : l.length ≤ 9223372036854775807 := by
  obtain ⟨a, cap, _, h1, h2, _⟩ := h
  unfold maxLen at h2
  omega
def rSl {α : Type} (R : Rep α) : Rep (List α) where
  sz := 1
  rd w A cs l := ∃ v, cs = [v] ∧ RdSl R w A v l
  len := by rintro w A cs x ⟨v, rfl, _⟩; rfl
  one := by
    rintro w A cs x ⟨v, rfl, h⟩ u hu
    simp at hu; subst hu; exact h.one
  pos := by decide
  go := by
    rintro w A cs x w' A' K ⟨v, rfl, h⟩ hk hK hA
    exact ⟨v, rfl, h.go hk hK hA⟩
def rInt : Rep Int where
  sz := 1
  rd _ _ cs x := cs = [.int .i64 x]
  len := by rintro w A cs x rfl; rfl
  one := by rintro w A cs x rfl u hu; simp at hu; subst hu; rfl
  pos := by decide
  go := fun h _ _ _ => h
def rBool : Rep Bool where
  sz := 1
  rd _ _ cs x := cs = [.bool x]
  len := by rintro w A cs x rfl; rfl
  one := by rintro w A cs x rfl u hu; simp at hu; subst hu; rfl
  pos := by decide
  go := fun h _ _ _ => h
abbrev Str := List UInt8
def strV (s : Str) : Value := .string ⟨s.toArray⟩
def rStr : Rep Str where
  sz := 1
  rd _ _ cs x := cs = [strV x]
  len := by rintro w A cs x rfl; rfl
  one := by rintro w A cs x rfl u hu; simp at hu; subst hu; rfl
  pos := by decide
  go := fun h _ _ _ => h
/-- The block of a slice value. -/
def ob : Value → Nat → Prop | .slice (some a) _ _ => fun b => b = a.block | _ => fun _ => False
theorem ob_row {v : Value} {k : Nat} : ob v k ↔ v.ownBlock = some k := by
  cases v with
  | slice a l c => cases a with
    | none => simp [ob, Value.ownBlock]
    | some a => simp [ob, Value.ownBlock]; exact eq_comm
  | _ => simp [ob, Value.ownBlock]
/-- A slice whose array is the function's own (its block is written on by append); the elements avoid A, and the block itself. -/
def OwnSl {α : Type} (R : Rep α) (E : TypeId) (w : World) (A : BS) (v : Value) (l : List α) : Prop :=
  ∃ xs, w.ownsRow 0 E R.sz v l.length xs ∧ ∀ i (h : i < l.length), R.rd w (fun b => A b ∨ ob v b) ((xs.drop (i * R.sz)).take R.sz) l[i]
theorem OwnSl.nil {α : Type} {R : Rep α} {E : TypeId} {w : World} {A : BS} : OwnSl R E w A (.slice none 0 0) ([] : List α) :=
  ⟨[], World.ownsRow_nil _ _ _ _, fun i h => absurd h (Nat.not_lt_zero _)⟩
theorem OwnSl.lt {α : Type} {R : Rep α} {E : TypeId} {w : World} {A : BS} {v : Value} {l : List α} (h : OwnSl R E w A v l) : ∀ k, ob v k → k < w.heap.size := by
  obtain ⟨xs, h1, _⟩ := h
  intro k hk
  exact (h1.lt k (ob_row.1 hk)).2
theorem OwnSl.go {α : Type} {R : Rep α} {E : TypeId} {w w' : World} {A A' K : BS} {v : Value} {l : List α} (h : OwnSl R E w A v l) (hk : Keep K w w') (hK : ∀ b, K b → b < w.heap.size → A b) (hKo : ∀ b, K b → ¬ ob v b) (hA : ∀ b, A' b → b < w.heap.size → A b ∨ ob v b) : OwnSl R E w' A' v l := by
  obtain ⟨xs, h1, h3⟩ := h
  refine ⟨xs, ?_, fun i hi => R.go (h3 i hi) hk (fun b h1 h2 => .inl (hK b h1 h2)) (fun b hb hl => ?_)⟩
  · refine ⟨h1.1, ?_⟩
    rcases h1.2 with h | ⟨g, cap, cur, rfl, e1, e2, e3⟩
    · exact .inl h
    · exact .inr ⟨g, cap, cur, rfl, e1, hk.blk e2 (fun h => hKo g h (by simp [ob])), e3⟩
  · rcases hb with hb | hb
    · exact hA b hb hl
    · exact .inr hb
theorem OwnSl.one {α : Type} {R : Rep α} {E : TypeId} {w : World} {A : BS} {v : Value} {l : List α} (h : OwnSl R E w A v l) : v.oneCell' = true := by
  obtain ⟨xs, h1, _⟩ := h
  rcases h1.2 with ⟨rfl, _⟩ | ⟨g, cap, cur, rfl, _⟩ <;> rfl
theorem OwnSl.rd {α : Type} {R : Rep α} {E : TypeId} {w : World} {A A' : BS} {v : Value} {l : List α} (h : OwnSl R E w A v l) (ha : ∀ b, ob v b → ¬ A' b) (hA : ∀ b, A' b → b < w.heap.size → A b ∨ ob v b) : RdSl R w A' v l := by
  obtain ⟨xs, h1, h3⟩ := h
  rcases h1.2 with ⟨rfl, hn⟩ | ⟨g, cap, cur, rfl, e1, e2, e3, e4, e5, e6⟩
  · have : l = [] := List.eq_nil_of_length_eq_zero hn
    subst this
    exact Rd2.nil
  · refine ⟨some ⟨g, 0, none⟩, cap, rfl, e3, e4, (fun h => by cases h), fun i hi => ⟨g, 0, cur, E, (0, 0), rfl, ha g (by simp [ob]), e2, ?_⟩⟩
    have := R.go (A' := A') (h3 i hi) (Keep.refl BE w) (fun _ h => h.elim) hA
    rw [← e6, List.drop_take, List.take_take, Nat.min_eq_left ?_] at this
    · rw [Nat.zero_add]; exact this
    · have : (i + 1) * R.sz ≤ l.length * R.sz := Nat.mul_le_mul_right _ hi
      rw [Nat.add_mul] at this
      omega
/-- Each entry was born once, ahead of now. -/
def BornOk (es : Array MapEntry) (clock : Nat) : Prop := (∀ e ∈ es.toList, e.born < clock) ∧ (es.toList.map (·.born)).Nodup
/-- Block b is a map with int keys: its entries as laid, in order. -/
def MapIs (w : World) (b : Nat) (ents : List (Int × Value)) : Prop :=
  ∃ es clock, w.heap[b]? = some (.map es clock) ∧ es.toList.map (fun e => (e.key, e.val)) = ents.map (fun p => (Value.int .i64 p.1, p.2)) ∧ BornOk es clock
/-- A piece of whatever kind: its own blocks; what it says of a world, where it avoids A. -/
structure Pce where
  own : BS
  P : World → BS → Prop
  lt : ∀ {w A b}, P w A → own b → b < w.heap.size
  go : ∀ {w w' A A' K}, P w A → Keep K w w' → (∀ b, K b → b < w.heap.size → A b) → (∀ b, K b → ¬ own b) → (∀ b, A' b → b < w.heap.size → A b ∨ own b) → P w' A'
/-- What a function knows of memory: piece by piece. -/
inductive Chunk : Type 1 where
  | no
  | rd {α : Type} (R : Rep α) (v : Value) (l : List α)
  | sr {α : Type} (R : Rep α) (v : Value) (l : List α)
  | pt (b o : Nat) (cs : List Value)
  | blk (b : Nat) (cs : List Value)
  | own {α : Type} (R : Rep α) (E : TypeId) (v : Value) (l : List α)
  | mp (b : Nat) (ents : List (Int × Value))
  | rp {α : Type} (R : Rep α) (v : Value) (x : α)
  | two (a b : Chunk)
  | pce (S : Pce)
def Chunk.own' : Chunk → BS
  | .blk b _ => fun x => x = b
  | .own _ _ v _ => ob v
  | .mp b _ => fun x => x = b
  | .two a b => fun x => a.own' x ∨ b.own' x
  | .pce S => S.own
  | _ => BE
/-- M: blocks of the callers; O: blocks of one's own. -/
def Chunk.holds (w : World) (M O : BS) : Chunk → Prop
  | .no => True
  | .rd R v l => RdSl R w (fun b => M b ∨ O b) v l
  | .sr R v l => Rd2 R w O (fun b => M b ∨ O b) v l
  | .pt b o cs => ¬ O b ∧ ∃ cells E fz, w.heap[b]? = some (.cells cells E fz) ∧ (cells.toList.drop o).take cs.length = cs
  | .blk b cs => ∃ E, w.heap[b]? = some (.cells cs.toArray E (0, 0))
  | .own R E v l => OwnSl R E w (fun b => M b ∨ O b) v l
  | .mp b ents => MapIs w b ents
  | .rp R v x => R.rd w (fun b => M b ∨ O b) [v] x
  | .two a b => a.holds w M O ∧ b.holds w M O ∧ ∀ x, a.own' x → ¬ b.own' x
  | .pce S => S.P w (fun b => M b ∨ O b)
theorem Chunk.go {c : Chunk} {w w' : World} {M O O' N : BS} (h : c.holds w M O) (hk : Keep N w w') (hN : ∀ b, N b → b < w.heap.size → O b) (hNo : ∀ b, N b → ¬ c.own' b) (hO : ∀ b, O' b → b < w.heap.size → M b ∨ O b) (hO2 : ∀ b, O' b → b < w.heap.size → O b) : c.holds w' M O' := by
  induction c with
  | no => trivial
  | rd R v l => exact RdSl.go h hk (fun b hb hl => .inr (hN b hb hl)) (fun b hb hl => hb.elim .inl (fun hb => hO b hb hl))
  | sr R v l => exact Rd2.go h hk hN (fun b hb hl => .inr (hN b hb hl)) hO2 (fun b hb hl => hb.elim .inl (fun hb => hO b hb hl))
  | pt b o cs =>
    obtain ⟨h1, cells, E, fz, h2, h3⟩ := h
    exact ⟨fun h => h1 (hO2 b h (lt_of_blk h2)), cells, E, fz, hk.blk h2 (fun h => h1 (hN b h (lt_of_blk h2))), h3⟩
  | blk b cs =>
    obtain ⟨E, h⟩ := h
    exact ⟨E, hk.blk h (fun hb => hNo b hb rfl)⟩
  | own R E v l => exact OwnSl.go h hk (fun b hb hl => .inr (hN b hb hl)) hNo (fun b hb hl => .inl (hb.elim .inl (fun hb => hO b hb hl)))
  | rp R v x => exact R.go h hk (fun b hb hl => .inr (hN b hb hl)) (fun b hb hl => hb.elim .inl (fun hb => hO b hb hl))
  | two a b iha ihb => exact ⟨iha h.1 (fun x hx ha => hNo x hx (.inl ha)), ihb h.2.1 (fun x hx hb => hNo x hx (.inr hb)), h.2.2⟩
  | pce S => exact S.go h hk (fun b hb hl => .inr (hN b hb hl)) hNo (fun b hb hl => .inl (hb.elim .inl (fun hb => hO b hb hl)))
  | mp b ents =>
    obtain ⟨es, c, h, he⟩ := h
    exact ⟨es, c, hk.blk h (fun hb => hNo b hb rfl), he⟩
theorem Chunk.sub {c : Chunk} {w : World} {M O O' : BS} (h : c.holds w M O) (hO : ∀ b, O' b → b < w.heap.size → O b) : c.holds w M O' :=
  Chunk.go h (Keep.refl BE w) (fun _ h => h.elim) (fun _ h => h.elim) (fun b hb hl => .inr (hO b hb hl)) hO
theorem Chunk.lt {c : Chunk} {w : World} {M O : BS} (h : c.holds w M O) : ∀ b, c.own' b → b < w.heap.size := by
  intro b hb
  induction c with
  | no => exact hb.elim
  | rd => exact hb.elim
  | sr => exact hb.elim
  | pt => exact hb.elim
  | blk b' cs =>
    cases hb
    exact lt_of_blk h.choose_spec
  | own R E v l => exact OwnSl.lt h b hb
  | rp => exact hb.elim
  | two a c iha ihc => exact hb.elim (fun hb => iha h.1 hb) (fun hb => ihc h.2.1 hb)
  | pce S => exact S.lt h hb
  | mp b' ents =>
    cases hb
    obtain ⟨_, _, h, _⟩ := h
    exact lt_of_blk h
def hupd (hp : Nat → Chunk) (i : Nat) (c : Chunk) : Nat → Chunk := fun j => bif Nat.beq j i then c else hp j
theorem hupd_same (hp : Nat → Chunk) (i : Nat) (c : Chunk) : hupd hp i c i = c := by simp [hupd, Nat.beq_refl]
theorem hupd_ne {hp : Nat → Chunk} {i j : Nat} {c : Chunk} (h : j ≠ i) : hupd hp i c j = hp j := by
  have : Nat.beq j i = false := by rw [Bool.eq_false_iff]; intro e; exact h (Nat.eq_of_beq_eq_true e)
  simp [hupd, this]
def hno : Nat → Chunk := fun _ => .no
def allOwn (hp : Nat → Chunk) : BS := fun b => ∃ j, (hp j).own' b
/-- The state of a walk. w0: the world it began in; M: blocks of the callers, not to be touched; K: old blocks that may be written. -/
structure SH (w0 : World) (M K : BS) (w : World) (hp : Nat → Chunk) : Prop where
  keep : Keep K w0 w
  ltM : ∀ b, M b → b < w0.heap.size
  apM : ∀ i b, (hp i).own' b → ¬ M b
  ok : ∀ i, (hp i).holds w M (allOwn hp)
  apart : ∀ i j, i ≠ j → ∀ b, (hp i).own' b → ¬ (hp j).own' b
  old : ∀ i b, (hp i).own' b → b < w0.heap.size → K b
section
variable {w0 w w' : World} {M K : BS} {hp : Nat → Chunk} {i : Nat} {c : Chunk}
def rest (hp : Nat → Chunk) (i : Nat) : BS := fun b => ∃ j, j ≠ i ∧ (hp j).own' b
theorem rest_all {hp : Nat → Chunk} {i b : Nat} (h : rest hp i b) : allOwn hp b := let ⟨j, _, h⟩ := h; ⟨j, h⟩
/-- What piece i's reading is to avoid of one's own, once it is c. -/
abbrev SH.av (hp : Nat → Chunk) (i : Nat) (c : Chunk) : BS := fun b => rest hp i b ∨ c.own' b
/-- Piece i becomes c: the world changes on piece i alone. -/
theorem SH.step {N : BS} (h : SH w0 M K w hp) (i : Nat) (hk : Keep N w w') (hN : ∀ b, N b → b < w.heap.size → (hp i).own' b)
    (ho : ∀ b, c.own' b → b < w.heap.size → (hp i).own' b) (hc : c.holds w' M (SH.av hp i c)) : SH w0 M K w' (hupd hp i c) := by
  have hM : ∀ b, M b → b < w.heap.size := fun b hb => Nat.lt_of_lt_of_le (h.ltM b hb) h.keep.size
  have hall : ∀ b, allOwn (hupd hp i c) b → rest hp i b ∨ c.own' b := by
    rintro b ⟨j, hj⟩
    by_cases e : j = i
    · subst e; rw [hupd_same] at hj; exact .inr hj
    · rw [hupd_ne e] at hj; exact .inl ⟨j, e, hj⟩
  have hall2 : ∀ b, allOwn (hupd hp i c) b → b < w.heap.size → allOwn hp b := fun b hb hl => (hall b hb).elim rest_all (fun h => ⟨i, ho b h hl⟩)
  refine ⟨?_, h.ltM, ?_, ?_, ?_, ?_⟩
  · exact h.keep.step hk (fun x hx hl => by
      have hl2 := Nat.lt_of_lt_of_le hl h.keep.size
      exact h.old i x (hN x hx hl2) hl)
  · intro j b hb
    by_cases e : j = i
    · subst e
      rw [hupd_same] at hb
      intro hm
      exact h.apM j b (ho b hb (hM b hm)) hm
    · rw [hupd_ne e] at hb; exact h.apM j b hb
  · intro j
    by_cases e : j = i
    · subst e
      rw [hupd_same]
      exact Chunk.sub hc (fun b hb _ => hall b hb)
    · rw [hupd_ne e]
      have hl := h.ok j
      refine Chunk.go hl (hk.weaken (N := fun b => N b ∧ b < w.heap.size) (fun b hb hl => ⟨hb, hl⟩)) ?_ ?_ ?_ ?_
      · intro b hb hl2
        exact ⟨i, hN b hb.1 hl2⟩
      · intro b hb hj
        exact h.apart j i e b hj (hN b hb.1 hb.2)
      · exact fun b hb hl => .inr (hall2 b hb hl)
      · exact hall2
  · intro j k hjk b hb hb2
    have lt : ∀ x, x ≠ i → (hp x).own' b → b < w.heap.size := fun x _ hx => Chunk.lt (h.ok x) b hx
    by_cases e : j = i
    · subst e
      have e2 : k ≠ j := fun e => hjk e.symm
      rw [hupd_same] at hb
      rw [hupd_ne e2] at hb2
      exact h.apart j k hjk b (ho b hb (lt k e2 hb2)) hb2
    · rw [hupd_ne e] at hb
      by_cases e2 : k = i
      · subst e2
        rw [hupd_same] at hb2
        exact h.apart j k hjk b hb (ho b hb2 (lt j e hb))
      · rw [hupd_ne e2] at hb2
        exact h.apart j k hjk b hb hb2
  · intro j b hb hl
    by_cases e : j = i
    · subst e
      rw [hupd_same] at hb
      exact h.old j b (ho b hb (Nat.lt_of_lt_of_le hl h.keep.size)) hl
    · rw [hupd_ne e] at hb; exact h.old j b hb hl
/-- What is read avoids these. -/
abbrev SH.A (M : BS) (hp : Nat → Chunk) : BS := fun b => M b ∨ allOwn hp b
theorem SH.lt (h : SH w0 M K w hp) : ∀ b, SH.A M hp b → b < w.heap.size := by
  rintro b (hb | ⟨j, hb⟩)
  · exact Nat.lt_of_lt_of_le (h.ltM b hb) h.keep.size
  · exact Chunk.lt (h.ok j) b hb
/-- Something new is known; the world has grown; c's own blocks are new. -/
theorem SH.learn (h : SH w0 M K w hp) (i : Nat) (hk : Grow w w') (ho : ∀ b, c.own' b → w.heap.size ≤ b) (hc : c.holds w' M (fun b => allOwn hp b ∨ c.own' b)) : SH w0 M K w' (hupd hp i c) :=
  h.step i hk (fun _ h => h.elim) (fun b hb hl => absurd (ho b hb) (by omega)) (Chunk.sub hc (fun b hb _ => hb.imp rest_all id))
theorem SH.grow (h : SH w0 M K w hp) (hk : Grow w w') : SH w0 M K w' hp :=
  ⟨h.keep.grow hk, h.ltM, h.apM, fun i => Chunk.go (h.ok i) hk (fun _ h => h.elim) (fun _ h => h.elim) (fun b hb _ => .inr hb) (fun b hb _ => hb), h.apart, h.old⟩
theorem SH.know (h : SH w0 M K w hp) (i : Nat) (ho : ∀ b, ¬ c.own' b) (hc : c.holds w M (allOwn hp)) : SH w0 M K w (hupd hp i c) :=
  h.learn i (Keep.refl BE w) (fun b hb => absurd hb (ho b)) (Chunk.sub hc (fun b hb _ => hb.elim id (fun hb => absurd hb (ho b))))
/-- An own slice is written on no more. -/
theorem SH.freeze {α : Type} {R : Rep α} {E : TypeId} {v : Value} {l : List α} (h : SH w0 M K w hp) (i : Nat) (hi : hp i = .own R E v l) : SH w0 M K w (hupd hp i (.rd R v l)) := by
  refine h.step i (Keep.refl BE w) (fun _ h => h.elim) (fun b hb => hb.elim) ?_
  have hl := h.ok i
  rw [hi] at hl
  refine OwnSl.rd hl (fun b hb ha => ?_) (fun b hb hl => ?_)
  · have hb2 : (hp i).own' b := by rw [hi]; exact hb
    rcases ha with ha | ⟨j, hj, ha⟩ | ha
    · exact h.apM i b hb2 ha
    · exact h.apart j i hj b ha hb2
    · exact ha
  · rcases hb with hb | hb | hb
    · exact .inl (.inl hb)
    · exact .inl (.inr (rest_all hb))
    · exact hb.elim
/-- Pieces laid anew in order. -/
def hset : List (Nat × Chunk) → Nat → Chunk
  | [] => hno
  | (i, c) :: r => hupd (hset r) i c
def HoldsC (hp : Nat → Chunk) : List (Nat × Chunk) → Prop
  | [] => True
  | (i, c) :: r => hp i = c ∧ HoldsC hp r
theorem hset_is {hp : Nat → Chunk} : ∀ {l : List (Nat × Chunk)}, HoldsC hp l → ∀ j, hset l j = hp j ∨ hset l j = .no
  | [], _, _ => .inr rfl
  | (i, c) :: r, h, j => by
    by_cases e : j = i
    · subst e; left; show hupd _ _ _ _ = _; rw [hupd_same]; exact h.1.symm
    · show hupd _ _ _ _ = _ ∨ hupd _ _ _ _ = _
      rw [hupd_ne e]; exact hset_is h.2 j
theorem SH.canon (h : SH w0 M K w hp) (l : List (Nat × Chunk)) (hl : HoldsC hp l) : SH w0 M K w (hset l) := by
  have key := hset_is hl
  have own : ∀ j b, (hset l j).own' b → (hp j).own' b := by
    intro j b hb
    rcases key j with e | e
    · rw [e] at hb; exact hb
    · rw [e] at hb; exact hb.elim
  refine ⟨h.keep, h.ltM, fun i b hb => h.apM i b (own i b hb), fun i => ?_, fun i j hij b hb hb2 => h.apart i j hij b (own i b hb) (own j b hb2), fun i b hb => h.old i b (own i b hb)⟩
  rcases key i with e | e
  · rw [e]
    exact Chunk.sub (h.ok i) (fun b ⟨j, hj⟩ _ => ⟨j, own j b hj⟩)
  · rw [e]; trivial
theorem SH.init {w : World} {M : BS} (hM : ∀ b, M b → b < w.heap.size) : SH w M BE w hno :=
  ⟨Keep.refl _ _, hM, fun _ _ h => h.elim, fun _ => trivial, fun _ _ _ _ h => h.elim, fun _ _ h => h.elim⟩
theorem SH.gotOwn {α : Type} {R : Rep α} {E : TypeId} {v : Value} {l : List α} (h : SH w0 M K w hp) (i : Nat) (hk : Grow w w') (ho : OwnSl R E w' (SH.A M hp) v l) (hf : ∀ b, ob v b → w.heap.size ≤ b) : SH w0 M K w' (hupd hp i (.own R E v l)) :=
  h.learn i hk hf (OwnSl.go ho (Keep.refl BE w') (fun _ h => h.elim) (fun _ h => h.elim) (fun b hb _ => hb.elim (fun h => .inl (.inl h)) (fun h => h.elim (fun h => .inl (.inr h)) .inr)))
theorem SH.gotRd {α : Type} {R : Rep α} {v : Value} {l : List α} (h : SH w0 M K w hp) (i : Nat) (hk : Grow w w') (ho : RdSl R w' (SH.A M hp) v l) : SH w0 M K w' (hupd hp i (.rd R v l)) :=
  h.learn i hk (fun _ h => h.elim) (RdSl.go ho (Keep.refl BE w') (fun _ h => h.elim) (fun b hb _ => hb.elim .inl (fun h => h.elim .inr (fun h => h.elim))))
theorem SH.knowRd {α : Type} {R : Rep α} {v : Value} {l : List α} (h : SH w0 M K w hp) (i : Nat) (ho : RdSl R w (SH.A M hp) v l) : SH w0 M K w (hupd hp i (.rd R v l)) := h.gotRd i (Keep.refl BE w) ho
theorem SH.argRd {α : Type} {R : Rep α} {v : Value} {l : List α} (h : SH w0 M K w hp) (i : Nat) (ho : RdSl R w M v l) (hn : ∀ b, ¬ allOwn hp b) : SH w0 M K w (hupd hp i (.rd R v l)) :=
  h.knowRd i (ho.go (Keep.refl BE w) (fun _ h => h.elim) (fun b hb _ => hb.elim id (fun h => absurd h (hn b))))
theorem SH.argSr {α : Type} {R : Rep α} {v : Value} {l : List α} (h : SH w0 M K w hp) (i : Nat) (ho : Rd2 R w BE M v l) (hn : ∀ b, ¬ allOwn hp b) : SH w0 M K w (hupd hp i (.sr R v l)) :=
  h.know i (fun _ h => h) (ho.sub (fun b hb _ => absurd hb (hn b)) (fun b hb _ => hb.elim id (fun h => absurd h (hn b))))
theorem SH.rdAt {α : Type} {R : Rep α} {v : Value} {l : List α} (h : SH w0 M K w hp) (i : Nat) (hi : hp i = .rd R v l) : RdSl R w (SH.A M hp) v l := by
  have := h.ok i; rw [hi] at this; exact this
theorem SH.srAt {α : Type} {R : Rep α} {v : Value} {l : List α} (h : SH w0 M K w hp) (i : Nat) (hi : hp i = .sr R v l) : Rd2 R w (allOwn hp) (SH.A M hp) v l := by
  have := h.ok i; rw [hi] at this; exact this
theorem SH.ownAt {α : Type} {R : Rep α} {E : TypeId} {v : Value} {l : List α} (h : SH w0 M K w hp) (i : Nat) (hi : hp i = .own R E v l) : OwnSl R E w (SH.A M hp) v l := by
  have := h.ok i; rw [hi] at this; exact this
theorem SH.blkAt {b : Nat} {cs : List Value} (h : SH w0 M K w hp) (i : Nat) (hi : hp i = .blk b cs) : ∃ E, w.heap[b]? = some (.cells cs.toArray E (0, 0)) := by
  have := h.ok i; rw [hi] at this; exact this
theorem SH.ptAt {b o : Nat} {cs : List Value} (h : SH w0 M K w hp) (i : Nat) (hi : hp i = .pt b o cs) : ∃ cells E fz, w.heap[b]? = some (.cells cells E fz) ∧ (cells.toList.drop o).take cs.length = cs := by
  have := h.ok i; rw [hi] at this; exact this.2
theorem SH.mpAt {b : Nat} {es : List (Int × Value)} (h : SH w0 M K w hp) (i : Nat) (hi : hp i = .mp b es) : MapIs w b es := by
  have := h.ok i; rw [hi] at this; exact this
theorem SH.grown (h : SH w0 M BE w hp) : Grow w0 w := h.keep
theorem SH.fresh (h : SH w0 M BE w hp) (i : Nat) : ∀ b, (hp i).own' b → w0.heap.size ≤ b := fun b hb => Nat.le_of_not_lt (fun hl => h.old i b hb hl)
/-- What a slice gives to read off, however it is held: one row. -/
theorem SH.rdS {α : Type} {R : Rep α} {v : Value} {l : List α} (h : SH w0 M K w hp) (i : Nat) (hi : hp i = .rd R v l) : Rd2 R w BE (SH.A M hp) v l := (h.rdAt i hi).src
theorem SH.srS {α : Type} {R : Rep α} {v : Value} {l : List α} (h : SH w0 M K w hp) (i : Nat) (hi : hp i = .sr R v l) : Rd2 R w BE (SH.A M hp) v l := (h.srAt i hi).src
theorem OwnSl.src {α : Type} {R : Rep α} {E : TypeId} {w : World} {A : BS} {v : Value} {l : List α} (h : OwnSl R E w A v l) : Rd2 R w BE A v l := by
  obtain ⟨xs, h1, h3⟩ := h
  rcases h1.2 with ⟨rfl, hn⟩ | ⟨g, cap, cur, rfl, e1, e2, e3, e4, e5, e6⟩
  · have : l = [] := List.eq_nil_of_length_eq_zero hn
    subst this
    exact Rd2.nil
  · refine ⟨some ⟨g, 0, none⟩, cap, rfl, e3, e4, (fun h => by cases h), fun i hi => ⟨g, 0, cur, E, (0, 0), rfl, fun h => h, e2, ?_⟩⟩
    have := R.go (A' := A) (h3 i hi) (Keep.refl BE w) (fun _ h => h.elim) (fun b hb _ => .inl hb)
    rw [← e6, List.drop_take, List.take_take, Nat.min_eq_left ?_] at this
    · rw [Nat.zero_add]; exact this
    · have : (i + 1) * R.sz ≤ l.length * R.sz := Nat.mul_le_mul_right _ hi
      rw [Nat.add_mul] at this
      omega
theorem SH.ownS {α : Type} {R : Rep α} {E : TypeId} {v : Value} {l : List α} (h : SH w0 M K w hp) (i : Nat) (hi : hp i = .own R E v l) : Rd2 R w BE (SH.A M hp) v l := (h.ownAt i hi).src
/-- An own slice, lent: as a reading that avoids all else. -/
theorem SH.lend {α : Type} {R : Rep α} {E : TypeId} {v : Value} {l : List α} (h : SH w0 M K w hp) (i : Nat) (hi : hp i = .own R E v l) : RdSl R w (fun b => M b ∨ rest hp i b) v l := by
  have h2 := (h.freeze i hi).rdAt i (hupd_same _ _ _)
  exact h2.go (Keep.refl BE w) (fun _ h => h.elim) (fun b hb _ => hb.imp id (fun ⟨j, hj, hb⟩ => ⟨j, by rw [hupd_ne hj]; exact hb⟩))
theorem none_own : ∀ b, ¬ allOwn hno b := fun _ ⟨_, h⟩ => h
theorem hupd_own_rd {α : Type} {R : Rep α} {v : Value} {l : List α} {i : Nat} (h : ∀ b, ¬ allOwn hp b) : ∀ b, ¬ allOwn (hupd hp i (.rd R v l)) b := by
  rintro b ⟨j, hj⟩
  by_cases e : j = i
  · subst e; rw [hupd_same] at hj; exact hj
  · rw [hupd_ne e] at hj; exact h b ⟨j, hj⟩
theorem hupd_own_sr {α : Type} {R : Rep α} {v : Value} {l : List α} {i : Nat} (h : ∀ b, ¬ allOwn hp b) : ∀ b, ¬ allOwn (hupd hp i (.sr R v l)) b := by
  rintro b ⟨j, hj⟩
  by_cases e : j = i
  · subst e; rw [hupd_same] at hj; exact hj
  · rw [hupd_ne e] at hj; exact h b ⟨j, hj⟩
end
end Go.LX

namespace Go.LX
open Go.RowKit
/-- A value that stands if a guard let it. -/
def gv (c : Bool) (v : Value) : Value := (bif c then [v] else []).headD undef
theorem gvt {c : Bool} {v : Value} (h : c = true) : gv c v = v := by rw [h]; rfl
theorem gl {a b : Bool} (h : (a && b) = true) : a = true := by cases a <;> simp_all
theorem gr {a b : Bool} (h : (a && b) = true) : b = true := by cases a <;> simp_all
structure ElemOf (P : Program) (T E : TypeId) (sz bytes : Nat) : Prop where
  desc : P.underlying T = some (.slice E)
  info : ∃ i z, P.info? E = some i ∧ i.zero = some z ∧ i.size = sz ∧ i.bytes = bytes ∧ z.cells.size = sz
theorem info_of {P : Program} {T : TypeId} {z : Option Value} {s : Nat} (h : (P.info? T).map (fun i => (i.zero, i.size)) = some (z, s)) : ∃ i, P.info? T = some i ∧ i.zero = z ∧ i.size = s := by
  cases hi : P.info? T with
  | none => simp [hi] at h
  | some i => simp [hi] at h; exact ⟨i, rfl, h.1, h.2⟩
def putb (w : World) (b : Nat) (o : Obj) : World := { w with heap := w.heap.setIfInBounds b o }
theorem putb_blk {w : World} {b : Nat} {o : Obj} (h : b < w.heap.size) : (putb w b o).heap[b]? = some o := by simp [putb, h]
theorem Keep.putb (w : World) (b : Nat) (o : Obj) : Keep (fun x => x = b) w (putb w b o) :=
  ⟨rfl, rfl, rfl, by simp [LX.putb], fun k hk _ => by
    have : b ≠ k := fun e => hk (by simp [e])
    show (w.heap.setIfInBounds b o)[k]? = _
    rw [Array.getElem?_setIfInBounds_ne this]⟩
theorem setCell_putb {w : World} {b o : Nat} {cs : Array Value} {E : TypeId} {fz : Nat × Nat} {v : Value} (hb : w.heap[b]? = some (.cells cs E fz)) : w.setCell ⟨b, o, none⟩ v = putb w b (.cells (cs.setIfInBounds o v) E fz) := by
  simp only [World.setCell, putb]
  congr 1
  have hlt := lt_of_blk hb
  apply Array.ext_getElem?
  intro i
  simp only [Array.getElem?_modify, Array.getElem?_setIfInBounds]
  by_cases hi : b = i
  · subst hi
    rw [if_pos rfl, if_pos rfl, if_pos hlt, hb]
    rfl
  · simp [hi]
theorem setRow_putb {w : World} {b : Nat} {cs cs' : Array Value} {E : TypeId} {fz : Nat × Nat} (hb : w.heap[b]? = some (.cells cs E fz)) : w.setRow b cs' = putb w b (.cells cs' E fz) := by
  simp only [World.setRow, putb]
  congr 1
  have hlt := lt_of_blk hb
  apply Array.ext_getElem?
  intro i
  simp only [Array.getElem?_modify, Array.getElem?_setIfInBounds]
  by_cases hi : b = i
  · subst hi
    rw [if_pos rfl, if_pos rfl, if_pos hlt, hb]
    rfl
  · simp [hi]
/-- A whole struct stored over a block's cells from o on. -/
def spl (cs : List Value) (o : Nat) (vs : List Value) : List Value := cs.take o ++ vs ++ cs.drop (o + vs.length)
/-- Cells beside each other in memory. -/
def At (w : World) (b o : Nat) (cs : List Value) : Prop := ∃ cells E fz, w.heap[b]? = some (.cells cells E fz) ∧ (cells.toList.drop o).take cs.length = cs
section
variable {P : Program} {ops : Array Oper} {Q : Exit → Act → World → Prop} {n : Nat} {env : Nat → Value} {w w' w0 : World} {M K : BS} {hp : Nat → Chunk} {rest : List Oper}
  {d : Option Nat} {op : Op} {ty : TypeId} {pos : String} {af : Array Edge} {v : Value} {g : Option (Nat × Bool)} {T : TypeId} {ρ : Operand → Value} {x y : Operand}
-- guards
theorem wl_gd {j dj : Nat} {b want : Bool} (c0 : Bool) (hd : (ops[j]?).bind (·.dst) = some dj) (hv : ev n env (.tmp dj) = gv c0 (.bool b))
    (hr : (c0 && (b == want)) = true → (execOp (ev n env) ⟨d, op, ty, pos, af, none⟩).run P w = .ok (.value v) w) (h : WL P ops Q rest n (updo env d (gv (c0 && (b == want)) v)) w) :
    WL P ops Q (⟨d, op, ty, pos, af, some (j, want)⟩ :: rest) n env w := by
  by_cases hc : (c0 && (b == want)) = true
  · have h0 := gl hc
    have h1 := gr hc
    rw [gvt h0] at hv
    rw [gvt hc] at h
    have hb : b = want := by simpa using h1
    subst hb
    exact wl_on hd hv (wl_ok (hr hc) h)
  · have hc' : (c0 && (b == want)) = false := by simpa using hc
    rw [hc'] at h
    cases c0 with
    | true =>
      refine wl_off hd hv ?_ h
      simpa using hc'
    | false =>
      have hu : ev n env (.tmp dj) = undef := hv
      have hy : yielded ops (act n env).tmps j = none := by
        unfold yielded
        have h1 : (act n env).eval (.tmp dj) = undef := by rw [act_eval]; exact hu
        simp only [hd, Option.bind_some]
        simp only [Act.eval] at h1
        cases h2 : (act n env).tmps[dj]? with
        | none => rfl
        | some x => simp [Array.getD_eq_getD_getElem?, h2] at h1; subst h1; rfl
      have hw : Region.wanted ⟨d, op, ty, pos, af, some (j, want)⟩ (yielded ops (act n env).tmps) = false := by simp [Region.wanted, hy]
      refine ⟨?_⟩
      unfold wpList
      rw [if_neg (by rw [hw]; decide), act_put]
      exact h.out
theorem wl_gd0 {j dj : Nat} {b want : Bool} (hd : (ops[j]?).bind (·.dst) = some dj) (hv : ev n env (.tmp dj) = .bool b)
    (hr : (b == want) = true → (execOp (ev n env) ⟨d, op, ty, pos, af, none⟩).run P w = .ok (.value v) w) (h : WL P ops Q rest n (updo env d (gv (b == want) v)) w) :
    WL P ops Q (⟨d, op, ty, pos, af, some (j, want)⟩ :: rest) n env w :=
  wl_gd true hd hv (fun h => hr (by simpa using h)) (by simpa using h)
theorem r_por {c a : Operand} {b p : Bool} (hc : ρ c = .bool b) (hy : ρ a = gv (b == false) (.bool p)) (hk : ∀ v, ρ (.const v) = v) : (execOp ρ ⟨d, .pick c (.const (.bool true)) a, ty, pos, af, g⟩).run P w = .ok (.value (.bool (b || p))) w := by
  cases b <;> simp_all [execOp, asBool, gv]
theorem r_pand {c a : Operand} {b p : Bool} (hc : ρ c = .bool b) (hx : ρ a = gv (b == true) (.bool p)) (hk : ∀ v, ρ (.const v) = v) : (execOp ρ ⟨d, .pick c a (.const (.bool false)), ty, pos, af, g⟩).run P w = .ok (.value (.bool (b && p))) w := by
  cases b <;> simp_all [execOp, asBool, gv]
theorem evc {n : Nat} {env : Nat → Value} : ∀ v, ev n env (.const v) = v := fun _ => rfl
-- bools and strings
theorem r_notb {T : TypeId} {b : Bool} (hx : ρ x = .bool b) : (execOp ρ ⟨d, .unOp .not T x, ty, pos, af, g⟩).run P w = .ok (.value (.bool !b)) w := r_not hx
theorem r_eqlb {T2 : TypeId} {p q : Bool} (hT : P.underlying T = some .bool) (hx : ρ x = .bool p) (hy : ρ y = .bool q) : (execOp ρ ⟨d, .binOp .eql T x y T2, ty, pos, af, g⟩).run P w = .ok (.value (.bool (p == q))) w := by
  simp [execOp, hx, hy, eqGuard, binOp, run_equal_bool w T p q hT]
theorem r_neqb {T2 : TypeId} {p q : Bool} (hT : P.underlying T = some .bool) (hx : ρ x = .bool p) (hy : ρ y = .bool q) : (execOp ρ ⟨d, .binOp .neq T x y T2, ty, pos, af, g⟩).run P w = .ok (.value (.bool (p != q))) w := by
  simp [execOp, hx, hy, eqGuard, binOp, run_equal_bool w T p q hT, bne]
-- memory read
theorem r_ldB {z : Value} {b o : Nat} {cs : List Value} (h : SH w0 M K w hp) (i : Nat) (hi : hp i = .blk b cs) (hT : One P T z) (hx : ρ x = .pointer (some ⟨b, o, none⟩)) (hv : cs[o]? = some v) :
    (execOp ρ ⟨d, .load T x, ty, pos, af, g⟩).run P w = .ok (.value v) w := let ⟨_, hb⟩ := h.blkAt i hi; r_load1 hT hx hb (by simpa using hv)
theorem r_loadN {zs vs : List Value} {b o : Nat} {cells : Array Value} {E : TypeId} {fz : Nat × Nat} (hT : Many P T zs) (hx : ρ x = .pointer (some ⟨b, o, none⟩)) (hb : w.heap[b]? = some (.cells cells E fz)) (hv : (cells.toList.drop o).take zs.length = vs) (hl : vs.length = zs.length) :
    (execOp ρ ⟨d, .load T x, ty, pos, af, g⟩).run P w = .ok (.value (.agg vs.toArray)) w := by
  obtain ⟨i, hi, hz, hs⟩ := info_of hT.info
  obtain ⟨dd, hd, hm⟩ := hT.desc
  have hc : ∀ j v, vs[j]? = some v → w.cell? ((⟨b, o, none⟩ : Addr).add j) = some v := by
    intro j v hj
    have hj' : j < zs.length := by
      rcases Nat.lt_or_ge j vs.length with h | h
      · omega
      · rw [List.getElem?_eq_none h] at hj; cases hj
    rw [← hv, List.getElem?_take, if_pos hj', List.getElem?_drop] at hj
    by_cases h0 : j = 0
    · subst h0; simpa [Addr.add, World.cell?, hb] using hj
    · simpa [Addr.add, World.cell?, hb, h0] using hj
  have hr := run_loadCells_list (P := P) (w := w) ⟨b, o, none⟩ vs hc
  rw [hl] at hr
  cases dd <;> simp at hm <;> simp [execOp, Instr.loadAt, hx, Instr.sureAddr, loadVar, isAgg, underlying, hd, sizeOf, typeInfo, hi, hs, hr]
theorem r_ldBN {zs vs : List Value} {b o : Nat} {cs : List Value} (h : SH w0 M K w hp) (i : Nat) (hi : hp i = .blk b cs) (hT : Many P T zs) (hx : ρ x = .pointer (some ⟨b, o, none⟩)) (hv : (cs.drop o).take zs.length = vs) (hl : vs.length = zs.length) :
    (execOp ρ ⟨d, .load T x, ty, pos, af, g⟩).run P w = .ok (.value (.agg vs.toArray)) w := let ⟨_, hb⟩ := h.blkAt i hi; r_loadN hT hx hb (by simpa using hv) hl
theorem r_ldA {z : Value} {b o k : Nat} {cs : List Value} (h : At w b o cs) (hT : One P T z) (hx : ρ x = .pointer (some ⟨b, o + k, none⟩)) (hv : cs[k]? = some v) :
    (execOp ρ ⟨d, .load T x, ty, pos, af, g⟩).run P w = .ok (.value v) w := by
  obtain ⟨cells, E, fz, hb, hc⟩ := h
  refine r_load1 hT hx hb ?_
  have hk : k < cs.length := by
    rcases Nat.lt_or_ge k cs.length with h1 | h1
    · exact h1
    · rw [List.getElem?_eq_none h1] at hv; cases hv
  have h0 : ((cells.toList.drop o).take cs.length)[k]? = some v := by rw [hc]; exact hv
  rw [List.getElem?_take, if_pos hk, List.getElem?_drop] at h0
  simpa using h0
theorem drop_take_add {α : Type} {l : List α} {o k m s : Nat} {cs : List α} (h : (l.drop o).take s = cs) (hk : k + m ≤ s) : (l.drop (o + k)).take m = (cs.drop k).take m := by
  rw [← h, List.drop_take, List.take_take, List.drop_drop, Nat.min_eq_left (by omega)]
theorem r_ldAN {zs vs : List Value} {b o k : Nat} {cs : List Value} (h : At w b o cs) (hT : Many P T zs) (hx : ρ x = .pointer (some ⟨b, o + k, none⟩)) (hv : (cs.drop k).take zs.length = vs) (hl : vs.length = zs.length) (hk : k + zs.length ≤ cs.length) :
    (execOp ρ ⟨d, .load T x, ty, pos, af, g⟩).run P w = .ok (.value (.agg vs.toArray)) w := by
  obtain ⟨cells, E, fz, hb, hc⟩ := h
  exact r_loadN hT hx hb (by rw [drop_take_add hc hk]; exact hv) hl
theorem r_ldP {z : Value} {b o k : Nat} {cs : List Value} (h : SH w0 M K w hp) (i : Nat) (hi : hp i = .pt b o cs) (hT : One P T z) (hx : ρ x = .pointer (some ⟨b, o + k, none⟩)) (hv : cs[k]? = some v) :
    (execOp ρ ⟨d, .load T x, ty, pos, af, g⟩).run P w = .ok (.value v) w := r_ldA (h.ptAt i hi) hT hx hv
theorem r_ldPN {zs vs : List Value} {b o k : Nat} {cs : List Value} (h : SH w0 M K w hp) (i : Nat) (hi : hp i = .pt b o cs) (hT : Many P T zs) (hx : ρ x = .pointer (some ⟨b, o + k, none⟩)) (hv : (cs.drop k).take zs.length = vs) (hl : vs.length = zs.length) (hk : k + zs.length ≤ cs.length) :
    (execOp ρ ⟨d, .load T x, ty, pos, af, g⟩).run P w = .ok (.value (.agg vs.toArray)) w := r_ldAN (h.ptAt i hi) hT hx hv hl hk
theorem r_fieldAddr {b o k off : Nat} (hT : FieldAt P T k off) (hx : ρ x = .pointer (some ⟨b, o, none⟩)) :
    (execOp ρ ⟨d, .fieldAddr T x k, ty, pos, af, g⟩).run P w = .ok (.value (.pointer (some ⟨b, o + off, none⟩))) w := by
  obtain ⟨fs, f, s, h1, h2, h3, h4⟩ := hT.desc
  obtain ⟨i, hi, hs⟩ : ∃ i, P.info? f.type = some i ∧ i.size = s + 1 := by
    cases hi : P.info? f.type with
    | none => simp [hi] at h4
    | some i => simp [hi] at h4; exact ⟨i, rfl, h4⟩
  by_cases h0 : off = 0 <;> simp [execOp, Instr.fieldAt, underlying, h1, h2, hx, Instr.sureAddr, fieldPlace, sizeOf, typeInfo, hi, hs, h3, Addr.add, h0]
theorem r_nilCheck {a : Addr} (hx : ρ x = .pointer (some a)) : (execOp ρ ⟨d, .nilCheck x, ty, pos, af, g⟩).run P w = .ok (.value (.pointer (some a))) w := by
  simp [execOp, hx]
theorem r_len {α : Type} {R : Rep α} {E : TypeId} {sz : Nat} {B A : BS} {l : List α} {w1 : World} (hT : SliceOf P T E sz) (hx : ρ x = v) (hv : Rd2 R w1 B A v l) :
    (execOp ρ ⟨d, .call { callee := .builtin .len, args := #[x], argTypes := #[T] }, ty, pos, af, g⟩).run P w = .ok (.value (.int .i64 l.length)) w := by
  obtain ⟨a, cap, rfl, _⟩ := hv
  exact r_len_slice hT hx
theorem r_lenS {s : Str} (hT : P.underlying T = some .string) (hx : ρ x = strV s) :
    (execOp ρ ⟨d, .call { callee := .builtin .len, args := #[x], argTypes := #[T] }, ty, pos, af, g⟩).run P w = .ok (.value (.int .i64 s.length)) w := by
  have h1 : (⟨s.toArray⟩ : ByteArray).size = s.length := by simp [ByteArray.size]
  simp [execOp, resolve, invoke, builtin, Builtin.len_, hx, strV, underlying, hT, goInt, h1]
/-- The address of an element. -/
theorem r_ix {α : Type} {R : Rep α} {E : TypeId} {B A : BS} {l : List α} {k : Int} {a : α} {w1 : World} (hT : SliceOf P T E R.sz) (hv : Rd2 R w1 B A v l) (hk0 : 0 ≤ k) (hk : l[k.toNat]? = some a) :
    ∃ b o cs, (∀ (ρ : Operand → Value) x y w d ty pos af g, ρ x = v → ρ y = .int .i64 k → (execOp ρ ⟨d, .indexAddr T x y, ty, pos, af, g⟩).run P w = .ok (.value (.pointer (some ⟨b, o, none⟩))) w) ∧ ¬ B b ∧ At w1 b o cs ∧ R.rd w1 A cs a := by
  have hkl : k.toNat < l.length := by
    rcases Nat.lt_or_ge k.toNat l.length with h | h
    · exact h
    · rw [List.getElem?_eq_none h] at hk; cases hk
  obtain ⟨a', cap, rfl, h1, h2, h3, h4⟩ := hv
  obtain ⟨b, o, cells, F, fz, rfl, e2, e3, e4⟩ := h4 k.toNat hkl
  obtain ⟨i, hi, hs⟩ : ∃ i, P.info? E = some i ∧ i.size = R.sz := by
    have := hT.info
    cases hi : P.info? E with
    | none => simp [hi] at this
    | some i => simp [hi] at this; exact ⟨i, rfl, this⟩
  have hla : l[k.toNat] = a := by rw [List.getElem?_eq_getElem hkl] at hk; exact Option.some.inj hk
  rw [hla] at e4
  refine ⟨b, o + k.toNat * R.sz, _, ?_, e2, ⟨cells, F, fz, e3, by rw [R.len e4]⟩, e4⟩
  intro ρ x y w d ty pos af g hx hy
  simp only [execOp, Instr.indexAt, hx, hy, asIntOf, underlying, sizeOf, typeInfo]
  have ha : (⟨b, o, none⟩ : Addr).add (k.toNat * R.sz) = ⟨b, o + k.toNat * R.sz, none⟩ := by
    unfold Addr.add
    split
    · next hz => rw [hz]; rfl
    · rfl
  have hk3 : k < (l.length : Int) := by omega
  simp [hT.desc, hi, hs, hk0, hk3, ha]
theorem SH.pt (h : SH w0 M K w hp) (i : Nat) {b o : Nat} {cs : List Value} (hb : ¬ allOwn hp b) (ha : At w b o cs) : SH w0 M K w (hupd hp i (.pt b o cs)) :=
  h.know i (fun _ h => h) ⟨hb, ha⟩
theorem allOwn_up {i : Nat} {c : Chunk} (hc : ∀ b, ¬ c.own' b) : ∀ b, allOwn (hupd hp i c) b → allOwn hp b := by
  rintro b ⟨j, hj⟩
  by_cases e : j = i
  · subst e; rw [hupd_same] at hj; exact absurd hj (hc b)
  · rw [hupd_ne e] at hj; exact ⟨j, hj⟩
theorem Rd2.up {α : Type} {R : Rep α} {l : List α} {i : Nat} {c : Chunk} (h : RdSl R w (SH.A M hp) v l) (hc : ∀ b, ¬ c.own' b := by exact fun _ h => h) : RdSl R w (SH.A M (hupd hp i c)) v l :=
  h.sub (fun b hb _ => hb.imp id (allOwn_up hc b)) (fun b hb _ => hb.imp id (allOwn_up hc b))
abbrev IxOk (P : Program) (T : TypeId) (v : Value) (k : Int) (p : Value) : Prop := ∀ (ρ : Operand → Value) x y w d ty pos af g, ρ x = v → ρ y = .int .i64 k → (execOp ρ ⟨d, .indexAddr T x y, ty, pos, af, g⟩).run P w = .ok (.value p) w
/-- An element of a slice that is read: its address, its cells (piece j). -/
theorem SH.ixR {α : Type} {R : Rep α} {E : TypeId} {sz : Nat} {l : List α} {k : Int} {a : α} (h : SH w0 M K w hp) (i j : Nat) (hi : hp i = .rd R v l) (hT : SliceOf P T E sz) (hs : R.sz = sz) (hk0 : 0 ≤ k) (hk : l[k.toNat]? = some a) :
    ∃ b o cs, SH w0 M K w (hupd hp j (.pt b o cs)) ∧ R.rd w (SH.A M hp) cs a ∧ IxOk P T v k (.pointer (some ⟨b, o, none⟩)) := by
  subst hs
  obtain ⟨b, o, cs, h1, h2, h3, h4⟩ := r_ix hT (h.rdAt i hi) hk0 hk
  exact ⟨b, o, cs, h.pt j (fun hb => h2 (.inr hb)) h3, h4, h1⟩
theorem SH.ixS {α : Type} {R : Rep α} {E : TypeId} {sz : Nat} {l : List α} {k : Int} {a : α} (h : SH w0 M K w hp) (i j : Nat) (hi : hp i = .sr R v l) (hT : SliceOf P T E sz) (hs : R.sz = sz) (hk0 : 0 ≤ k) (hk : l[k.toNat]? = some a) :
    ∃ b o cs, SH w0 M K w (hupd hp j (.pt b o cs)) ∧ R.rd w (SH.A M hp) cs a ∧ IxOk P T v k (.pointer (some ⟨b, o, none⟩)) := by
  subst hs
  obtain ⟨b, o, cs, h1, h2, h3, h4⟩ := r_ix hT (h.srAt i hi) hk0 hk
  exact ⟨b, o, cs, h.pt j h2 h3, h4, h1⟩
/-- A bound of a slice expression. -/
def BndIs (o : Option Value) (a : Int) (other : Nat) : Prop := (o = none ∧ a = other) ∨ o = some (.int .i64 a)
/-- A part of a list: from a up to b. -/
def cut {α : Type} (l : List α) (a b : Int) : List α := (l.take b.toNat).drop a.toNat
theorem r_slv {α : Type} {R : Rep α} {E : TypeId} {a b : Int} {B A : BS} {l : List α} {w1 : World} (hT : SliceOf P T E R.sz) (hv : Rd2 R w1 B A v l) (ha : 0 ≤ a) (hab : a ≤ b) (hb : b ≤ l.length) :
    ∃ u, (∀ (ρ : Operand → Value) x (lo hi : Option Operand) w d ty pos af g, ρ x = v → BndIs (lo.map ρ) a 0 → BndIs (hi.map ρ) b l.length → (execOp ρ ⟨d, .slice T x lo hi none, ty, pos, af, g⟩).run P w = .ok (.value u) w) ∧ Rd2 R w1 B A u (cut l a b) ∧ (∀ (w2 : World) (B2 A2 : BS) (l2 : List α), Rd2 R w2 B2 A2 v l2 → l2.length = l.length → Rd2 R w2 B2 A2 u (cut l2 a b)) := by
  obtain ⟨a, rfl⟩ := Int.eq_ofNat_of_zero_le ha
  obtain ⟨b, rfl⟩ := Int.eq_ofNat_of_zero_le (by omega : 0 ≤ b)
  have hab : a ≤ b := by omega
  have hb : b ≤ l.length := by omega
  obtain ⟨ad, cap, rfl, h1, h2, h3, h4⟩ := hv
  obtain ⟨i, hi', his⟩ : ∃ i, P.info? E = some i ∧ i.size = R.sz := by
    have := hT.info
    cases hi : P.info? E with
    | none => simp [hi] at this
    | some i => simp [hi] at this; exact ⟨i, rfl, this⟩
  have hbc : b ≤ cap := by omega
  refine ⟨.slice (if cap = a then ad else ad.map (·.add (a * R.sz))) (b - a) (cap - a), fun ρ x lo hi w d ty pos af g hx hlo hhi => ?_, ?_⟩
  · have hb2 : (Instr.sliceBounds true l.length cap (lo.map ρ) (hi.map ρ) none).run P w = .ok (a, b, cap) w := by
      have h0 : (0 : Int) ≤ (a : Int) := Int.natCast_nonneg a
      have h0b : (0 : Int) ≤ (b : Int) := Int.natCast_nonneg b
      have hai : (a : Int) ≤ (b : Int) := by omega
      have hbi : (b : Int) ≤ (cap : Int) := by omega
      rcases hlo with ⟨e1, e2⟩ | e1 <;> rcases hhi with ⟨f1, f2⟩ | f1
      · obtain rfl : a = 0 := by omega
        obtain rfl : b = l.length := by omega
        simp [Instr.sliceBounds, e1, f1]
      · obtain rfl : a = 0 := by omega
        simp [Instr.sliceBounds, e1, f1, Instr.sliceBound, asIntOf, hbc]
      · obtain rfl : b = l.length := by omega
        simp [Instr.sliceBounds, e1, f1, Instr.sliceBound, asIntOf, hab]
      · simp [Instr.sliceBounds, e1, f1, Instr.sliceBound, asIntOf, hab, hbc]
    simp only [execOp, Instr.sliceAt, Instr.slice, underlying, hx]
    simp [hT.desc, hb2, sizeOf, typeInfo, hi', his]
  suffices H : ∀ (w2 : World) (B2 A2 : BS) (l2 : List α), Rd2 R w2 B2 A2 (.slice ad l.length cap) l2 → l2.length = l.length → Rd2 R w2 B2 A2 (.slice (if cap = a then ad else ad.map (·.add (a * R.sz))) (b - a) (cap - a)) (cut l2 a b) from ⟨H _ _ _ l ⟨ad, cap, rfl, h1, h2, h3, h4⟩ rfl, H⟩
  · intro w1 B A l ⟨ad', cap', e0, h1, h2, h3, h4⟩ hll
    obtain ⟨e0a, e0b, e0c⟩ := Value.slice.inj e0
    subst e0a
    subst e0c
    have hb : b ≤ l.length := by omega
    have hlen : (cut l a b).length = b - a := by simp [cut]; omega
    refine ⟨_, cap - a, by rw [hlen], by rw [hlen]; omega, by omega, ?_, ?_⟩
    · intro hn
      split at hn
      · omega
      · cases ad with
        | none => have := h3 rfl; omega
        | some x => simp at hn
    · intro j hj
      rw [hlen] at hj
      obtain ⟨bb, o, cells, F, fz, e1, e2, e3, e4⟩ := h4 (a + j) (by omega)
      subst e1
      refine ⟨bb, o + a * R.sz, cells, F, fz, ?_, e2, e3, ?_⟩
      · rw [if_neg (by omega)]
        simp only [Option.map_some, Option.some.injEq]
        unfold Addr.add
        split
        · next hz => rw [hz]; rfl
        · rfl
      · have : (cut l a b)[j]'(by rw [hlen]; exact hj) = l[a + j]'(by omega) := by simp [cut]
        rw [this]
        rw [show o + a * R.sz + j * R.sz = o + (a + j) * R.sz by rw [Nat.add_mul, Nat.add_assoc]]
        exact e4
theorem r_sl {α : Type} {R : Rep α} {E : TypeId} {a b : Int} {B A : BS} {l : List α} {w1 : World} (hT : SliceOf P T E R.sz) (hv : Rd2 R w1 B A v l) (ha : 0 ≤ a) (hab : a ≤ b) (hb : b ≤ l.length) :
    ∃ u, (∀ (ρ : Operand → Value) x (lo hi : Option Operand) w d ty pos af g, ρ x = v → BndIs (lo.map ρ) a 0 → BndIs (hi.map ρ) b l.length → (execOp ρ ⟨d, .slice T x lo hi none, ty, pos, af, g⟩).run P w = .ok (.value u) w) ∧ Rd2 R w1 B A u (cut l a b) :=
  let ⟨u, h1, h2, _⟩ := r_slv hT hv ha hab hb; ⟨u, h1, h2⟩
abbrev SlOk (P : Program) (T : TypeId) (v : Value) (a b : Int) (n : Nat) (u : Value) : Prop := ∀ (ρ : Operand → Value) x (lo hi : Option Operand) w d ty pos af g, ρ x = v → BndIs (lo.map ρ) a 0 → BndIs (hi.map ρ) b n → (execOp ρ ⟨d, .slice T x lo hi none, ty, pos, af, g⟩).run P w = .ok (.value u) w
theorem SH.slR {α : Type} {R : Rep α} {E : TypeId} {sz : Nat} {a b : Int} {l : List α} (h : SH w0 M K w hp) (i j : Nat) (hi : hp i = .rd R v l) (hT : SliceOf P T E sz) (hs : R.sz = sz) (ha : 0 ≤ a) (hab : a ≤ b) (hb : b ≤ l.length) :
    ∃ u, SH w0 M K w (hupd hp j (.rd R u (cut l a b))) ∧ SlOk P T v a b l.length u := by
  subst hs
  obtain ⟨u, h1, h2⟩ := r_sl hT (h.rdAt i hi) ha hab hb
  exact ⟨u, h.knowRd j h2, h1⟩
theorem SH.slS {α : Type} {R : Rep α} {E : TypeId} {sz : Nat} {a b : Int} {l : List α} (h : SH w0 M K w hp) (i j : Nat) (hi : hp i = .sr R v l) (hT : SliceOf P T E sz) (hs : R.sz = sz) (ha : 0 ≤ a) (hab : a ≤ b) (hb : b ≤ l.length) :
    ∃ u, SH w0 M K w (hupd hp j (.sr R u (cut l a b))) ∧ SlOk P T v a b l.length u := by
  subst hs
  obtain ⟨u, h1, h2⟩ := r_sl hT (h.srAt i hi) ha hab hb
  exact ⟨u, h.know j (fun _ h => h) h2, h1⟩
-- memory made
theorem r_allocN {zs : List Value} (hT : Many P T zs) : (execOp ρ ⟨d, .alloc T, ty, pos, af, g⟩).run P w = .ok (.value (.pointer (some ⟨w.heap.size, 0, none⟩))) (w.alloc (.cells zs.toArray T)) := by
  obtain ⟨i, hi, hz, hs⟩ := info_of hT.info
  simp [execOp, Instr.alloc, zeroValue, typeInfo, hi, hz, newVar, newRow, Value.cells, World.alloc, -World.alloc_eq]
theorem r_alloc1 {z : Value} (hT : One P T z) : (execOp ρ ⟨d, .alloc T, ty, pos, af, g⟩).run P w = .ok (.value (.pointer (some ⟨w.heap.size, 0, none⟩))) (w.alloc (.cells #[z] T)) := by
  obtain ⟨i, hi, hz, hs⟩ := info_of hT.info
  simp [execOp, Instr.alloc, zeroValue, typeInfo, hi, hz, newVar, newRow, hT.cell, World.alloc, -World.alloc_eq]
theorem r_box (hx : ρ x = v) : (execOp ρ ⟨d, .box T x, ty, pos, af, g⟩).run P w = .ok (.value (.pointer (some ⟨w.heap.size, 0, none⟩))) (w.alloc (.cells v.cells T)) := by
  simp [execOp, Instr.box, newVar, newRow, hx, World.alloc, -World.alloc_eq]
theorem SH.newB (h : SH w0 M K w hp) (i : Nat) (cs : List Value) (T : TypeId) : SH w0 M K (w.alloc (.cells cs.toArray T)) (hupd hp i (.blk w.heap.size cs)) :=
  h.learn i (Grow.alloc _ _) (fun b hb => Nat.le_of_eq hb.symm) ⟨T, alloc_blk _ _⟩
theorem w_allocN {zs : List Value} (h : SH w0 M K w hp) (i : Nat) (hT : Many P T zs) (k : ∀ w' b, SH w0 M K w' (hupd hp i (.blk b zs)) → WL P ops Q rest n (updo env d (.pointer (some ⟨b, 0, none⟩))) w') : WL P ops Q (⟨d, .alloc T, ty, pos, af, none⟩ :: rest) n env w :=
  wl_ok (r_allocN hT) (k _ _ (h.newB i zs T))
theorem w_alloc1 {z : Value} (h : SH w0 M K w hp) (i : Nat) (hT : One P T z) (k : ∀ w' b, SH w0 M K w' (hupd hp i (.blk b [z])) → WL P ops Q rest n (updo env d (.pointer (some ⟨b, 0, none⟩))) w') : WL P ops Q (⟨d, .alloc T, ty, pos, af, none⟩ :: rest) n env w :=
  wl_ok (r_alloc1 hT) (k _ _ (h.newB i [z] T))
theorem w_box {cs : List Value} (h : SH w0 M K w hp) (i : Nat) (hx : ev n env x = v) (hv : v.cells = cs.toArray) (k : ∀ w' b, SH w0 M K w' (hupd hp i (.blk b cs)) → WL P ops Q rest n (updo env d (.pointer (some ⟨b, 0, none⟩))) w') : WL P ops Q (⟨d, .box T x, ty, pos, af, none⟩ :: rest) n env w :=
  wl_ok (by rw [r_box hx, hv]) (k _ _ (h.newB i cs T))
theorem r_store1 {z : Value} {b o : Nat} {cs : Array Value} {E : TypeId} (hT : One P T z) (hx : ρ x = .pointer (some ⟨b, o, none⟩)) (hb : w.heap[b]? = some (.cells cs E (0, 0))) (ho : o < cs.size) (hy : ρ y = v) (hv : v.oneCell' = true) :
    (execOp ρ ⟨d, .store T x y, ty, pos, af, g⟩).run P w = .ok .skip (putb w b (.cells (cs.setIfInBounds o v) E (0, 0))) := by
  obtain ⟨i, hi, hz, hs⟩ := info_of hT.info
  have hc : w.cell? ⟨b, o, none⟩ = some cs[o] := by simp [World.cell?, hb, ho]
  have hf : w.frozen? ⟨b, o, none⟩ = false := by simp [World.frozen?, hb]
  have hcs : v.cells = #[v] := by cases v <;> first | rfl | simp [Value.oneCell'] at hv
  rw [← setCell_putb hb]
  simp only [execOp, Instr.storeAt, hx, hy, Instr.sureAddr, storeVar, hcs, sizeOf, typeInfo]
  simp [hi, hs, storeCells, run_store _ _ _ _ _ hv, hc, hf, Addr.add]
theorem r_storeN {zs vs : List Value} {b o : Nat} {cs : List Value} {E : TypeId} (hT : Many P T zs) (hx : ρ x = .pointer (some ⟨b, o, none⟩)) (hb : w.heap[b]? = some (.cells cs.toArray E (0, 0))) (hy : ρ y = .agg vs.toArray) (hl : vs.length = zs.length) (ho : o + vs.length ≤ cs.length) (hv : ∀ v ∈ vs, v.oneCell' = true) :
    (execOp ρ ⟨d, .store T x y, ty, pos, af, g⟩).run P w = .ok .skip (putb w b (.cells (spl cs o vs).toArray E (0, 0))) := by
  obtain ⟨i, hi, hz, hs⟩ := info_of hT.info
  have := run_storeCells_at (P := P) b o E vs 0 cs.toArray w hb (by simpa using ho) hv
  simp only [execOp, Instr.storeAt, hx, hy, Instr.sureAddr, storeVar, Value.cells, sizeOf, typeInfo]
  simp [hi, hs, hl, this, setRow_putb hb, spl]
theorem SH.putB {b : Nat} {cs : List Value} (h : SH w0 M K w hp) (i : Nat) (hi : hp i = .blk b cs) (cs' : List Value) (E : TypeId) : SH w0 M K (putb w b (.cells cs'.toArray E (0, 0))) (hupd hp i (.blk b cs')) := by
  have hb := h.blkAt i hi
  obtain ⟨E', hb⟩ := hb
  exact h.step i (Keep.putb _ _ _) (fun x hx _ => by rw [hi]; exact hx) (fun x hx _ => by rw [hi]; exact hx) ⟨E, putb_blk (lt_of_blk hb)⟩
theorem w_st1 {z : Value} {b o : Nat} {cs : List Value} (h : SH w0 M K w hp) (i : Nat) (cs' : List Value) (hi : hp i = .blk b cs) (hT : One P T z) (hx : ev n env x = .pointer (some ⟨b, o, none⟩)) (hy : ev n env y = v) (ho : cs.set o v = cs') (hl : Nat.blt o cs.length = true) (hv : v.oneCell' = true)
    (k : ∀ w', SH w0 M K w' (hupd hp i (.blk b cs')) → WL P ops Q rest n (updo env d undef) w') :
    WL P ops Q (⟨d, .store T x y, ty, pos, af, none⟩ :: rest) n env w := by
  obtain ⟨E, hb⟩ := h.blkAt i hi
  refine wl_skip (r_store1 hT hx hb (by rw [Nat.blt_eq] at hl; simpa using hl) hy hv) (k _ ?_)
  have := h.putB i hi cs' E
  subst ho
  simpa using this
theorem w_stN {zs vs : List Value} {b o : Nat} {cs : List Value} (h : SH w0 M K w hp) (i : Nat) (cs' : List Value) (hi : hp i = .blk b cs) (hT : Many P T zs) (hx : ev n env x = .pointer (some ⟨b, o, none⟩)) (hy : ev n env y = .agg vs.toArray) (hl : vs.length = zs.length) (ho : spl cs o vs = cs') (hb : Nat.ble (o + vs.length) cs.length = true) (hv : ∀ v ∈ vs, v.oneCell' = true)
    (k : ∀ w', SH w0 M K w' (hupd hp i (.blk b cs')) → WL P ops Q rest n (updo env d undef) w') :
    WL P ops Q (⟨d, .store T x y, ty, pos, af, none⟩ :: rest) n env w := by
  obtain ⟨E, hb'⟩ := h.blkAt i hi
  subst ho
  exact wl_skip (r_storeN hT hx hb' hy hl (Nat.le_of_ble_eq_true hb) hv) (k _ (h.putB i hi _ E))
-- calls
def FnOk (P : Program) (f : FuncId) : Prop := ∃ fn, P.funcs[f]? = some fn ∧ (fn.name == "runtime.NumGoroutine") = false ∧ fn.body.isNone = false
theorem r_call {f : FuncId} {first captured : Array Value} {xs : Array Operand} {ts : Array TypeId} (hf : FnOk P f) (hx : ρ x = .func (.func f) first captured) :
    (execOp ρ ⟨d, .call { callee := .value x, args := xs, argTypes := ts }, ty, pos, af, g⟩).run P w = .ok (.enter f (first ++ xs.map ρ ++ captured)) w := by
  obtain ⟨fn, h1, h2, h3⟩ := hf
  have h2' : ¬ fn.name = "runtime.NumGoroutine" := by simpa using h2
  have h3' : ¬ fn.body = none := fun e => by simp [e] at h3
  simp [execOp, resolve, hx, Deferred.ofValue, invoke, callFunc, h1, h2', h3']
/-- A call: its contract c, at the arguments that stand there. -/
theorem w_call {f : FuncId} {first captured : Array Value} {xs : Array Operand} {ts : Array TypeId} {args : List Value} {R : Ending → World → Prop} (hf : FnOk P f) (hx : ev n env x = .func (.func f) first captured)
    (ha : first.toList ++ xs.toList.map (ev n env) ++ captured.toList = args) (hc : Calls P f args.toArray w R)
    (h : ∀ e w', R e w' → ∃ v, e = .returned v ∧ WL P ops Q rest n (updo env d v) w') :
    WL P ops Q (⟨d, .call { callee := .value x, args := xs, argTypes := ts }, ty, pos, af, none⟩ :: rest) n env w := by
  refine wl_enter (r_call hf hx) ?_ h
  have : first ++ xs.map (ev n env) ++ captured = args.toArray := by
    rw [← ha]; apply Array.ext'; simp
  rw [this]
  exact hc
theorem r_extract {i : Nat} {vs : List Value} (hx : ρ x = .tuple vs.toArray) (hv : vs[i]? = some v) : (execOp ρ ⟨d, .extract x i, ty, pos, af, g⟩).run P w = .ok (.value v) w := by
  simp [execOp, Instr.extract, hx, hv]
theorem r_makeFunc {f : FuncId} {first captured : Array Operand} {c1 c2 : List Value} (h1 : first.toList.map ρ = c1) (h2 : captured.toList.map ρ = c2) :
    (execOp ρ ⟨d, .makeFunc (.func f) first captured, ty, pos, af, g⟩).run P w = .ok (.value (.func (.func f) c1.toArray c2.toArray)) w := by
  have e1 : first.map ρ = c1.toArray := by rw [← h1]; apply Array.ext'; simp
  have e2 : captured.map ρ = c2.toArray := by rw [← h2]; apply Array.ext'; simp
  simp [execOp, Instr.makeFunc, e1, e2]
/-- The function's start and ends. -/
theorem calls_start {f : FuncId} {fn : Func} {c : Code} {args : List Value} {R : Ending → World → Prop} {n : Nat}
    (hf : P.funcs[f]? = some fn) (hb : fn.body = some c) (hn : fn.ntmps = n) (hl : args.length ≤ n)
    (h : WC P c (bodyPost P fn R) n (env0 args) w) : Calls P f args.toArray w R := by
  refine calls_of_wp hf hb ?_
  rw [hn, act_init n args hl]
  exact h.out
theorem fin1 {fn : Func} {R : Ending → World → Prop} {t : Tmp} (hr : fn.results = #[.tmp t]) (hv : ev n env (.tmp t) = v) (h : R (.returned v) w) : bodyPost P fn R .ret (act n env) w := by
  refine ⟨rfl, v, ?_, h⟩
  rw [results_tmp hr]
  have := congrFun (act_eval n env) (.tmp t)
  rw [hv] at this
  exact congrArg (fun v => Result.ok v w) this
theorem fin1n {fn : Func} {R : Ending → World → Prop} {t : Tmp} (hr : fn.results = #[.tmp t]) (hv : ev n env (.tmp t) = v) (h : R (.returned v) w) : bodyPost P fn R .normal (act n env) w := fin1 hr hv h
theorem fin0 {fn : Func} {R : Ending → World → Prop} (hr : fn.results = #[]) (h : R (.returned (.tuple #[])) w) : bodyPost P fn R .ret (act n env) w := ⟨rfl, _, results_none hr _ _ _, h⟩
theorem fin0n {fn : Func} {R : Ending → World → Prop} (hr : fn.results = #[]) (h : R (.returned (.tuple #[])) w) : bodyPost P fn R .normal (act n env) w := ⟨rfl, _, results_none hr _ _ _, h⟩
theorem fin2 {fn : Func} {R : Ending → World → Prop} {t u : Tmp} {v1 v2 : Value} (hr : fn.results = #[.tmp t, .tmp u]) (h1 : ev n env (.tmp t) = v1) (h2 : ev n env (.tmp u) = v2) (h : R (.returned (.tuple #[v1, v2])) w) : bodyPost P fn R .ret (act n env) w := by
  refine ⟨rfl, _, ?_, h⟩
  rw [results_tmp2 hr]
  have e1 := congrFun (act_eval n env) (.tmp t)
  have e2 := congrFun (act_eval n env) (.tmp u)
  rw [h1] at e1
  rw [h2] at e2
  simp only [Act.eval] at e1 e2
  rw [e1, e2]
end
-- the data's side of the walk
section
variable {α β σ ρ : Type} {r : ρ} {G : Prop}
theorem c_split {b : Bool} {X Y : ρ} (hs : cond b X Y = r) (h1 : b = true → X = r → G) (h2 : b = false → Y = r → G) : G := by
  cases b
  · exact h2 rfl hs
  · exact h1 rfl hs
theorem o_bind {o : Option α} {f : α → Option β} {r : β} (h : o.bind f = some r) : ∃ x, o = some x ∧ f x = some r := by
  cases o with
  | none => cases h
  | some x => exact ⟨x, rfl, h⟩
/-- A guard: what does not hold is not told. -/
def grd (p : Prop) [Decidable p] (x : Option β) : Option β := if p then x else none
theorem o_grd {p : Prop} [Decidable p] {x : Option β} {r : β} (h : grd p x = some r) : p ∧ x = some r := by
  unfold grd at h
  by_cases hp : p
  · rw [if_pos hp] at h; exact ⟨hp, h⟩
  · rw [if_neg hp] at h; cases h
/-- An element, by a number. -/
def idx (l : List α) (k : Int) : Option α := if 0 ≤ k then l[k.toNat]? else none
theorem o_idx {l : List α} {k : Int} {x : α} (h : idx l k = some x) : 0 ≤ k ∧ l[k.toNat]? = some x := by
  unfold idx at h
  by_cases hp : 0 ≤ k
  · rw [if_pos hp] at h; exact ⟨hp, h⟩
  · rw [if_neg hp] at h; cases h
/-- A part, by numbers. -/
def sub? (l : List α) (a b : Int) : Option (List α) := if 0 ≤ a ∧ a ≤ b ∧ b ≤ l.length then some (cut l a b) else none
theorem o_sub {l : List α} {a b : Int} {x : List α} (h : sub? l a b = some x) : x = cut l a b ∧ 0 ≤ a ∧ a ≤ b ∧ b ≤ l.length := by
  unfold sub? at h
  by_cases hp : 0 ≤ a ∧ a ≤ b ∧ b ≤ l.length
  · rw [if_pos hp] at h; cases h; exact ⟨rfl, hp⟩
  · rw [if_neg hp] at h; cases h
def I64 (x : Int) : Prop := -9223372036854775808 ≤ x ∧ x ≤ 9223372036854775807
def i64b : Int → Bool
  | .ofNat n => Nat.ble n 9223372036854775807
  | .negSucc n => Nat.ble n 9223372036854775807
theorem i64b_iff {x : Int} : i64b x = true ↔ I64 x := by
  unfold I64
  cases x with
  | ofNat n => simp [i64b, Nat.ble_eq]; omega
  | negSucc n => simp [i64b, Nat.ble_eq]; omega
instance (x : Int) : Decidable (I64 x) := decidable_of_iff (i64b x = true) i64b_iff
theorem I64.mk {x : Int} (h1 : -9223372036854775808 ≤ x) (h2 : x ≤ 9223372036854775807) : I64 x := ⟨h1, h2⟩
/-- Element by element; the body is given what follows. -/
def each (body : α → σ → (σ → ρ) → ρ) (k : σ → ρ) : List α → σ → ρ
  | [], s => k s
  | x :: r, s => body x s (each body k r)
def eachI (body : Int → α → σ → (σ → ρ) → ρ) (k : σ → ρ) : Int → List α → σ → ρ
  | _, [], s => k s
  | i, x :: r, s => body i x s (eachI body k (i + 1) r)
/-- So many times. -/
def upto (body : Int → σ → (σ → ρ) → ρ) (k : σ → ρ) : Int → Nat → σ → ρ
  | _, 0, s => k s
  | i, m + 1, s => body i s (upto body k (i + 1) m)
/-- Again and again, N times at most. -/
def again (body : σ → (σ → Option β) → Option β) : Nat → σ → Option β
  | 0, _ => none
  | n + 1, s => body s (again body n)
end
section
variable {P : Program} {Q : Exit → Act → World → Prop} {n : Nat} {env : Nat → Value} {w : World} {x y : Code}
theorem wc_ifb {ρ : Type} {r X Y : ρ} {c : Operand} {b : Bool} (hs : cond b X Y = r) (hc : ev n env c = .bool b) (h1 : b = true → X = r → WC P x Q n env w) (h2 : b = false → Y = r → WC P y Q n env w) :
    WC P (Code.cond c x y) Q n env w := wc_if hc (fun h => h1 h (by rw [h] at hs; exact hs)) (fun h => h2 h (by rw [h] at hs; exact hs))
/-- What holds where ways meet again. -/
def JP {σ : Type} (n : Nat) (mod : Nat → Bool) (env0 : Nat → Value) (live : σ → List (Nat × Value)) (J : σ → World → Prop) : Act → World → Prop :=
  fun a' w' => ∃ s e, a' = act n e ∧ Agr mod e env0 ∧ Holds e (live s) ∧ J s w'
/-- What holds at a round's end. -/
def JL {σ : Type} (n : Nat) (mod : Nat → Bool) (env0 : Nat → Value) (live : σ → List (Nat × Value)) (J : σ → World → Prop) (μ : σ → Nat) (s0 : σ) : Act → World → Prop :=
  fun a' w' => ∃ s e, a' = act n e ∧ Agr mod e env0 ∧ Holds e (live s) ∧ J s w' ∧ μ s < μ s0
theorem wc_lp {σ : Type} {c : Code} (mod : Nat → Bool) (live : σ → List (Nat × Value)) (J : σ → World → Prop) (μ : σ → Nat) (s0 : σ)
    (hl : Holds env (live s0)) (hJ : J s0 w)
    (round : ∀ s wr junk, J s wr → WC P c (Exit.then (JL n mod env live J μ s) Q) n (upds (hav mod junk env) (live s)) wr) :
    WC P (Code.loop c) Q n env w := wc_loop mod live J μ s0 hl hJ round
/-- Where ways meet again. -/
theorem wc_join {σ : Type} (mod : Nat → Bool) (live : σ → List (Nat × Value)) (J : σ → World → Prop)
    (hj : ∀ s w junk, J s w → WC P y Q n (upds (hav mod junk env) (live s)) w)
    (h : WC P x (Exit.then (JP n mod env live J) Q) n env w) : WC P (Code.seq x y) Q n env w := by
  refine wc_seq ⟨wp_mono h.out (fun ex a w h => ?_)⟩
  cases ex with
  | normal =>
    obtain ⟨s, e, rfl, hA, hH, hJ⟩ := h
    have := hj s w e hJ
    rw [hav_self hA, upds_self _ hH] at this
    exact this.out
  | _ => exact h
end
section
variable {K : Act → World → Prop} {Q : Exit → Act → World → Prop} {a : Act} {w : World} {i j : Nat}
theorem then_loop (h : K a w) : Exit.then K Q .normal a w := h
theorem then_ret (h : Q .ret a w) : Exit.then K Q .ret a w := h
theorem then_exit (h : Q (.exit i) a w) : Exit.then K Q (.exit i) a w := h
theorem inBlock_normal (h : Q .normal a w) : Exit.inBlock i Q .normal a w := h
theorem inBlock_ret (h : Q .ret a w) : Exit.inBlock i Q .ret a w := h
theorem inBlock_eq (h : Q .normal a w) : Exit.inBlock i Q (.exit i) a w := by simp only [Exit.inBlock, if_true]; exact h
theorem inBlock_ne (hn : ¬ j = i) (h : Q (.exit j) a w) : Exit.inBlock i Q (.exit j) a w := by simp only [Exit.inBlock, if_neg hn]; exact h
end
theorem Agr.os {mod : Nat → Bool} {e entry : Nat → Value} {d : Nat} {v : Value} (hd : mod d = true) (h : Agr mod e entry) : Agr mod (updo e (some d) v) entry := Agr.upd hd h
theorem Agr.on {mod : Nat → Bool} {e entry : Nat → Value} {v : Value} (h : Agr mod e entry) : Agr mod (updo e none v) entry := h
theorem Agr.uc {mod : Nat → Bool} {e entry : Nat → Value} {d : Nat} {v : Value} {l : List (Nat × Value)} (hd : mod d = true) (h : Agr mod (upds e l) entry) : Agr mod (upds e ((d, v) :: l)) entry := Agr.upd hd h
theorem Agr.un {mod : Nat → Bool} {e entry : Nat → Value} (h : Agr mod e entry) : Agr mod (upds e []) entry := h
def inl (l : List Nat) (i : Nat) : Bool := match l with | [] => false | a :: r => bif Nat.beq i a then true else inl r i
def subl (l m : List Nat) : Bool := match l with | [] => true | a :: r => bif inl m a then subl r m else false
theorem subl_inl {m : List Nat} : ∀ {l : List Nat}, subl l m = true → ∀ i, inl l i = true → inl m i = true
  | [], _, i, h => by simp [inl] at h
  | a :: r, hs, i, h => by
    unfold subl at hs
    unfold inl at h
    cases ha : inl m a with
    | false => simp [ha] at hs
    | true =>
      simp only [ha, cond_true] at hs
      cases hb : Nat.beq i a with
      | true => have := Nat.eq_of_beq_eq_true hb; subst this; exact ha
      | false => simp only [hb, cond_false] at h; exact subl_inl hs i h
theorem Agr.hin {l m : List Nat} {j e entry : Nat → Value} (hs : subl l m = true) (h : Agr (inl m) e entry) : Agr (inl m) (LX.hav (inl l) j e) entry := fun i hi => by
  have : inl l i = false := by
    cases hc : inl l i with
    | false => rfl
    | true => rw [subl_inl hs i hc] at hi; cases hi
  simp only [LX.hav, this, cond_false]
  exact h i hi
end Go.LX

namespace Go.LX
open Go.RowKit
/-- The cells of a slice that is read, as one row. -/
theorem Rd2.row {α : Type} {R : Rep α} {w : World} {B A : BS} {v : Value} {l : List α} (h : Rd2 R w B A v l) :
    (v = .slice none 0 0 ∧ l = []) ∨ ∃ (a : Addr) (cap : Nat) (news : List Value), v = .slice (some a) l.length cap ∧ news.length = l.length * R.sz ∧ (∀ j u, news[j]? = some u → w.cell? (a.add j) = some u) ∧ (∀ u ∈ news, u.oneCell' = true) ∧
      ∀ i (h : i < l.length), R.rd w A ((news.drop (i * R.sz)).take R.sz) l[i] := by
  obtain ⟨a, cap, rfl, h1, h2, h3, h4⟩ := h
  cases a with
  | none =>
    have hc := h3 rfl
    subst hc
    have hl : l = [] := List.eq_nil_of_length_eq_zero (by omega)
    subst hl
    exact .inl ⟨rfl, rfl⟩
  | some a =>
    right
    by_cases hl : l.length = 0
    · have : l = [] := List.eq_nil_of_length_eq_zero hl
      subst this
      exact ⟨a, cap, [], rfl, by simp, fun j u h => by simp at h, fun u h => by simp at h, fun i h => absurd h (Nat.not_lt_zero _)⟩
    · obtain ⟨b, o, cells, E, fz, e1, e2, e3, e4⟩ := h4 0 (by omega)
      cases e1
      have all : ∀ i (hi : i < l.length), R.rd w A ((cells.toList.drop (o + i * R.sz)).take R.sz) l[i] := by
        intro i hi
        obtain ⟨b', o', cells', E', fz', e1, _, e3', e4'⟩ := h4 i hi
        cases e1
        rw [e3] at e3'
        cases e3'
        exact e4'
      have hlast := R.len (all (l.length - 1) (by omega))
      simp only [List.length_take, List.length_drop, Array.length_toList] at hlast
      have hpos := R.pos
      have hfit : o + l.length * R.sz ≤ cells.size := by
        have h5 : l.length * R.sz = (l.length - 1) * R.sz + R.sz := by
          conv => lhs; rw [show l.length = (l.length - 1) + 1 by omega]
          rw [Nat.add_mul, Nat.one_mul]
        omega
      refine ⟨⟨b, o, none⟩, cap, (cells.toList.drop o).take (l.length * R.sz), rfl, ?_, ?_, ?_, ?_⟩
      · simp only [List.length_take, List.length_drop, Array.length_toList]; omega
      · intro j u hu
        rw [List.getElem?_take] at hu
        split at hu
        · rw [List.getElem?_drop] at hu
          have ha : (⟨b, o, none⟩ : Addr).add j = ⟨b, o + j, none⟩ := by unfold Addr.add; split <;> simp_all
          rw [ha]
          simpa [World.cell?, e3] using hu
        · cases hu
      · intro u hu
        obtain ⟨j, hj⟩ := List.getElem?_of_mem hu
        rw [List.getElem?_take] at hj
        split at hj
        · next hlt =>
          rw [List.getElem?_drop] at hj
          have hi : j / R.sz < l.length := Nat.div_lt_of_lt_mul (by rw [Nat.mul_comm]; exact hlt)
          refine R.one (all (j / R.sz) hi) u ?_
          refine List.mem_of_getElem? (i := j % R.sz) ?_
          rw [List.getElem?_take, if_pos (Nat.mod_lt _ hpos), List.getElem?_drop]
          rw [show o + j / R.sz * R.sz + j % R.sz = o + j by rw [Nat.add_assoc, Nat.div_add_mod' j R.sz]]
          exact hj
        · cases hj
      · intro i hi
        rw [List.drop_take, List.take_take, List.drop_drop, Nat.min_eq_left]
        · exact all i hi
        · have : (i + 1) * R.sz ≤ l.length * R.sz := Nat.mul_le_mul_right _ hi
          rw [Nat.add_mul] at this
          omega
theorem fill_fold (c : List Value) : ∀ (cells : Array Value) (o : Nat), o + c.length ≤ cells.size →
    (c.zipIdx.foldl (fun cs (p : Value × Nat) => cs.setIfInBounds (o + p.2) p.1) cells).toList = spl cells.toList o c := by
  suffices H : ∀ (k : Nat) (cells : Array Value) (o : Nat), o + k + c.length ≤ cells.size →
      ((c.zipIdx k).foldl (fun cs (p : Value × Nat) => cs.setIfInBounds (o + p.2) p.1) cells).toList = spl cells.toList (o + k) c by
    intro cells o h
    have := H 0 cells o (by simpa using h)
    simpa using this
  induction c with
  | nil => intro k cells o h; simp [spl]
  | cons x r ih =>
    intro k cells o h
    simp only [List.length_cons] at h
    rw [List.zipIdx_cons, List.foldl_cons, ih (k + 1) _ o (by simp; omega)]
    simp only [Array.toList_setIfInBounds, spl]
    rw [show o + (k + 1) = o + k + 1 by omega]
    apply List.ext_getElem?
    intro i
    simp only [List.append_assoc, List.getElem?_append, List.length_take, List.length_set, Array.length_toList, List.getElem?_take, List.getElem?_set, List.getElem?_drop, List.length_cons, List.getElem?_cons]
    grind
/-- build's rows: parts of a size each, in order. -/
theorem fill_parts {sz : Nat} (hz : 0 < sz) : ∀ (vs : List Value) (k : Nat) (cells : Array Value), (∀ v ∈ vs, v.cells.size = sz) → (k + vs.length) * sz ≤ cells.size →
    ∃ out, Instr.fill (fun i => some (i * sz, sz)) cells ((vs.zipIdx k).map fun p => (p.2, p.1)) = some out ∧ out.toList = spl cells.toList (k * sz) (vs.map fun v => v.cells.toList).flatten
  | [], k, cells, _, _ => ⟨cells, rfl, by simp [spl]⟩
  | v :: r, k, cells, hv, hs => by
    have h1 : v.cells.size = sz := hv v (by simp)
    simp only [List.length_cons] at hs
    have hs2 : (k + 1 + r.length) * sz ≤ cells.size := by rw [show k + 1 + r.length = k + (r.length + 1) by omega]; exact hs
    have hk : k * sz + sz ≤ cells.size := by
      have : (k + 1) * sz ≤ (k + 1 + r.length) * sz := Nat.mul_le_mul_right _ (by omega)
      rw [Nat.add_mul, Nat.one_mul] at this
      omega
    have hf := fill_fold v.cells.toList cells (k * sz) (by rw [Array.length_toList, h1]; exact hk)
    let c2 := v.cells.zipIdx.foldl (fun cs (p : Value × Nat) => cs.setIfInBounds (k * sz + p.2) p.1) cells
    have hc2 : c2.toList = spl cells.toList (k * sz) v.cells.toList := by
      rw [← hf]
      show (v.cells.zipIdx.foldl _ cells).toList = _
      rw [← Array.foldl_toList, Array.toList_zipIdx]
    have hl2 : c2.size = cells.size := by
      have := congrArg List.length hc2
      simp only [spl, List.length_append, List.length_take, List.length_drop, Array.length_toList] at this
      omega
    obtain ⟨out, ho1, ho2⟩ := fill_parts hz r (k + 1) c2 (fun x hx => hv x (by simp [hx])) (by rw [hl2]; exact hs2)
    refine ⟨out, ?_, ?_⟩
    · rw [List.zipIdx_cons, List.map_cons]
      unfold Instr.fill
      simp only [h1, ne_eq, not_true_eq_false, decide_false, Bool.false_or]
      rw [if_neg (by simp; omega)]
      exact ho1
    · rw [ho2, hc2]
      simp only [List.map_cons, List.flatten_cons, spl]
      rw [show (k + 1) * sz = k * sz + sz by rw [Nat.add_mul, Nat.one_mul]]
      have h3 : v.cells.toList.length = sz := by rw [Array.length_toList, h1]
      generalize v.cells.toList = c at *
      generalize (r.map fun v => v.cells.toList).flatten = q
      apply List.ext_getElem?
      intro i
      simp only [List.append_assoc, List.getElem?_append, List.length_take, Array.length_toList, List.length_append, List.getElem?_take, List.getElem?_drop, List.length_drop]
      grind
def RdAll {α : Type} (R : Rep α) (w : World) (A : BS) : List Value → List α → Prop
  | [], [] => True
  | v :: vs, x :: xs => R.rd w A v.cells.toList x ∧ RdAll R w A vs xs
  | _, _ => False
theorem RdAll.len {α : Type} {R : Rep α} {w : World} {A : BS} : ∀ {vs : List Value} {xs : List α}, RdAll R w A vs xs → vs.length = xs.length
  | [], [], _ => rfl
  | v :: vs, x :: xs, h => by simp [RdAll.len h.2]
  | [], _ :: _, h => h.elim
  | _ :: _, [], h => h.elim
theorem RdAll.sizes {α : Type} {R : Rep α} {w : World} {A : BS} : ∀ {vs : List Value} {xs : List α}, RdAll R w A vs xs → ∀ v ∈ vs, v.cells.size = R.sz
  | [], [], _ => by simp
  | v :: vs, x :: xs, h => by
    intro u hu
    rcases List.mem_cons.1 hu with rfl | hu
    · have := R.len h.1; simpa using this
    · exact RdAll.sizes h.2 u hu
  | [], _ :: _, h => h.elim
  | _ :: _, [], h => h.elim
theorem flat_len {sz : Nat} : ∀ {vs : List Value}, (∀ v ∈ vs, v.cells.size = sz) → (vs.map fun v => v.cells.toList).flatten.length = vs.length * sz
  | [], _ => by simp
  | v :: r, h => by
    have h1 := h v (by simp)
    have h2 := flat_len (fun u hu => h u (List.mem_cons_of_mem _ hu))
    simp only [List.map_cons, List.flatten_cons, List.length_append, h2, Array.length_toList, h1, List.length_cons, Nat.add_mul]
    omega
theorem RdAll.at {α : Type} {R : Rep α} {w : World} {A : BS} : ∀ {vs : List Value} {xs : List α}, RdAll R w A vs xs → ∀ i (h : i < xs.length), R.rd w A (((vs.map fun v => v.cells.toList).flatten.drop (i * R.sz)).take R.sz) xs[i]
  | [], [], _, i, h => absurd h (Nat.not_lt_zero _)
  | v :: vs, x :: xs, h, i, hi => by
    have h1 : v.cells.toList.length = R.sz := R.len h.1
    cases i with
    | zero =>
      simp only [List.map_cons, List.flatten_cons, Nat.zero_mul, List.drop_zero, List.getElem_cons_zero]
      rw [List.take_append_of_le_length (by omega), List.take_of_length_le (by omega)]
      exact h.1
    | succ i =>
      have := RdAll.at h.2 i (by simpa using hi)
      simp only [List.map_cons, List.flatten_cons, List.getElem_cons_succ]
      rw [List.drop_append, List.drop_eq_nil_of_le (by rw [h1, Nat.add_mul]; omega), List.nil_append, h1, show (i + 1) * R.sz - R.sz = i * R.sz by rw [Nat.add_mul]; omega]
      exact this
  | [], _ :: _, h, _, _ => h.elim
  | _ :: _, [], h, _, _ => h.elim
/-- A struct type: its zero's cells, the places of its fields. -/
structure Struct (P : Program) (T : TypeId) (zs : List Value) (pl : List (Nat × Nat)) : Prop where
  zero : (P.info? T).map (·.zero) = some (some (.agg zs.toArray))
  desc : ∃ fs, P.underlying T = some (.struct fs) ∧ fs.toList.map (fun f => (f.offset, (P.info? f.type).map (·.size))) = pl.map (fun p => (p.1, some p.2))
/-- Parts laid into cells, one behind the other. -/
def FillOk (pl : List (Nat × Nat)) (cs : List Value) : List (Nat × Value) → List Value → Prop
  | [], out => cs = out
  | (i, v) :: r, out => ∃ off size vs, pl[i]? = some (off, size) ∧ v.cells.toList = vs ∧ vs.length = size ∧ off + size ≤ cs.length ∧ FillOk pl (spl cs off vs) r out
theorem fill_ok {pl : List (Nat × Nat)} : ∀ {parts : List (Nat × Value)} {cs out : List Value}, FillOk pl cs parts out → Instr.fill (fun i => pl[i]?) cs.toArray parts = some out.toArray
  | [], cs, out, h => by cases h; rfl
  | (i, v) :: r, cs, out, h => by
    obtain ⟨off, size, vs, h1, h2, h3, h4, h5⟩ := h
    unfold Instr.fill
    simp only [h1]
    have hsz : v.cells.size = size := by rw [← h3, ← h2, Array.length_toList]
    rw [if_neg (by simp [hsz]; omega)]
    have hf := fill_fold vs cs.toArray off (by rw [h3]; simpa using h4)
    have : (v.cells.zipIdx.foldl (fun cs (p : Value × Nat) => cs.setIfInBounds (off + p.2) p.1) cs.toArray) = (spl cs off vs).toArray := by
      apply Array.ext'
      rw [← Array.foldl_toList, Array.toList_zipIdx, h2]
      exact hf
    have ih := fill_ok h5
    rw [← this] at ih
    exact ih
section
variable {P : Program} {ops : Array Oper} {Q : Exit → Act → World → Prop} {n : Nat} {env : Nat → Value} {w w' w0 : World} {M K : BS} {hp : Nat → Chunk} {rest : List Oper}
  {d : Option Nat} {op : Op} {ty : TypeId} {pos : String} {af : Array Edge} {v : Value} {g : Option (Nat × Bool)} {T : TypeId} {ρ : Operand → Value} {x y : Operand}
theorem keep_of_grownBy (h : w.grownBy w' v.ownBlock) : Keep (ob v) w w' :=
  ⟨h.os, h.tape, h.output, h.size, fun b hb hl => h.block b hl (fun e => hb (ob_row.2 e.symm))⟩
theorem r_append_none {E : TypeId} {sz bytes : Nat} {a : Option Addr} {l c : Nat} (hT : ElemOf P T E sz bytes) (hx : ρ x = .slice a l c) (hl : l ≤ c) (hy : ρ y = .slice none 0 0) :
    (execOp ρ ⟨d, .call { callee := .builtin .append, args := #[x, y], argTypes := #[T, T] }, ty, pos, af, g⟩).run P w = .ok (.value (.slice a l c)) w := by
  obtain ⟨i, z, hi, hz, hs, _, _⟩ := hT.info
  cases a <;> simp [execOp, resolve, invoke, builtin, hx, hy, Builtin.append_, underlying, hT.desc, sizeOf, typeInfo, hi, Builtin.lenOf, hl, Builtin.firstCells, storeCells]
theorem run_app {α : Type} {R : Rep α} {E : TypeId} {sz bytes : Nat} {A : BS} {u : Value} {l m : List α} (hT : ElemOf P T E sz bytes) (hs : R.sz = sz) (hx : ρ x = v) (hv : OwnSl R E w A v l) (hy : ρ y = u) (hu : Rd2 R w BE A u m)
    (hA : ∀ b, ob v b → A b) (hb : (l.length + m.length) * bytes ≤ 140737488355328) (hm : l.length + m.length ≤ 9223372036854775807) :
    ∃ v' w', (execOp ρ ⟨d, .call { callee := .builtin .append, args := #[x, y], argTypes := #[T, T] }, ty, pos, af, g⟩).run P w = .ok (.value v') w' ∧ OwnSl R E w' A v' (l ++ m) ∧ Keep (ob v) w w' ∧ (∀ b, ob v' b → b < w.heap.size → ob v b) := by
  subst hs
  have hv0 := hv
  obtain ⟨xs, h1, h3⟩ := hv
  rcases hu.row with ⟨rfl, rfl⟩ | ⟨ad, c, news, rfl, n1, n2, n3, n4⟩
  · have hw : (execOp ρ ⟨d, .call { callee := .builtin .append, args := #[x, y], argTypes := #[T, T] }, ty, pos, af, g⟩).run P w = .ok (.value v) w := by
      rcases h1.2 with ⟨rfl, hn⟩ | ⟨gg, cap, cur, rfl, _, _, hc, _⟩
      · exact r_append_none hT hx (Nat.le_refl _) hy
      · exact r_append_none hT hx hc hy
    exact ⟨v, w, hw, by simpa using hv0, Keep.refl _ _, fun _ hb _ => hb⟩
  · obtain ⟨i, z, hi, hz, hs, hby, hzs⟩ := hT.info
    obtain ⟨v', w', hr, hown, hg, _⟩ := run_append_own (P := P) w 0 T ty E i z R.sz bytes hT.desc hi hz hs hby hzs R.pos v l.length xs h1 ad m.length c news n1 n2 n3 (by unfold maxLen; omega) hb (Nat.zero_le _)
    have hk := keep_of_grownBy hg
    have hnew : ∀ b, ob v' b → b < w.heap.size → ob v b := by
      rcases h1.2 with ⟨rfl, hn⟩ | ⟨gg, cap, cur, rfl, _, hgg, hc, hcm, hcs, htake⟩
      · by_cases hm0 : m.length = 0
        · have hnews : news = [] := List.eq_nil_of_length_eq_zero (by rw [n1, hm0]; simp)
          subst hnews
          have hr2 : (Builtin.append_ #[T, T] ty #[.slice none 0 0, .slice (some ad) m.length c]).run P w = .ok (.slice none 0 0) w := by
            simp [Builtin.append_, underlying, hT.desc, sizeOf, typeInfo, hi, Builtin.lenOf, hm0, Builtin.firstCells, loadCells, loadCellsFrom]
          rw [hr2] at hr
          cases hr
          exact fun b hb _ => hb
        · have hr2 := run_append_nil (P := P) w T ty E i z hT.desc hi hz ad m.length c news (by rw [hs]; exact n1) n2 (by omega) (by omega) (by rw [hby]; have := hb; rw [Nat.add_mul] at this; omega)
          rw [hr2] at hr
          cases hr
          intro b hb hl
          simp [ob] at hb
          omega
      · by_cases hroom : l.length + m.length ≤ cap
        · have hfit : l.length * i.size + news.length ≤ cur.size := by rw [n1, hs, hcs, ← Nat.add_mul]; exact Nat.mul_le_mul_right _ hroom
          have hr2 := run_append_room (P := P) w T ty E i hT.desc hi gg l.length cap cur hgg ad m.length c news (by rw [hs]; exact n1) n2 n3 hroom hfit
          rw [hr2] at hr
          cases hr
          exact fun b hb _ => hb
        · have holds : ∀ j u, xs[j]? = some u → w.cell? ((⟨gg, 0, none⟩ : Addr).add j) = some u := h1.cells (g := gg) rfl
          have hr2 := run_append_grow (P := P) w T ty E i z hT.desc hi hz ⟨gg, 0, none⟩ l.length cap xs (by rw [hs]; exact h1.1) holds ad m.length c news (by rw [hs]; exact n1) n2 (by omega) (by omega) (growslice_fits (by omega) (by rw [hby]; exact hb))
          rw [hr2] at hr
          cases hr
          intro b hb hl
          simp [ob] at hb
          omega
    have hrun : (execOp ρ ⟨d, .call { callee := .builtin .append, args := #[x, y], argTypes := #[T, T] }, ty, pos, af, g⟩).run P w = .ok (.value v') w' := by
      simp only [execOp, resolve, invoke, builtin, Sem.run_bind, Sem.run_pure, Result.andThen_ok, List.map_toArray, List.map_cons, List.map_nil, hx, hy, hr]
    refine ⟨v', w', hrun, ⟨xs ++ news, by rw [List.length_append]; exact hown, ?_⟩, hk, hnew⟩
    intro i hi'
    have hxl := h1.1
    have hA2 : ∀ b, A b ∨ ob v' b → b < w.heap.size → A b ∨ ob v b := fun b hb hl => hb.imp id (fun hb => hnew b hb hl)
    by_cases hil : i < l.length
    · have h5 := R.go (h3 i hil) hk (fun b hb _ => .inr hb) hA2
      have hle : (i + 1) * R.sz ≤ l.length * R.sz := Nat.mul_le_mul_right _ hil
      rw [Nat.add_mul] at hle
      rw [List.getElem_append_left hil, List.drop_append_of_le_length (by omega), List.take_append_of_le_length (by rw [List.length_drop]; omega)]
      exact h5
    · rw [List.length_append] at hi'
      have h5 := R.go (n4 (i - l.length) (by omega)) hk (fun b hb _ => hA b hb) (fun b hb hl => (hA2 b hb hl).elim id (hA b))
      rw [List.getElem_append_right (by omega), List.drop_append, List.drop_eq_nil_of_le (by rw [hxl]; exact Nat.mul_le_mul_right _ (by omega)), List.nil_append, hxl, ← Nat.sub_mul]
      exact h5
theorem SH.nilO {α : Type} {R : Rep α} {E : TypeId} (h : SH w0 M K w hp) (i : Nat) : SH w0 M K w (hupd hp i (.own R E (.slice none 0 0) ([] : List α))) :=
  h.learn i (Keep.refl BE w) (fun _ h => h.elim) OwnSl.nil
/-- append onto a slice of one's own (piece i). -/
theorem w_app {α : Type} {R : Rep α} {E : TypeId} {sz bytes : Nat} {u : Value} {l m : List α} (h : SH w0 M K w hp) (i : Nat) (hi : hp i = .own R E v l) (hu : Rd2 R w BE (SH.A M hp) u m) (hT : ElemOf P T E sz bytes) (hs : R.sz = sz) (hx : ev n env x = v) (hy : ev n env y = u)
    (hb : (l.length + m.length) * bytes ≤ 140737488355328) (hm : l.length + m.length ≤ 9223372036854775807)
    (k : ∀ w' v', SH w0 M K w' (hupd hp i (.own R E v' (l ++ m))) → WL P ops Q rest n (updo env d v') w') :
    WL P ops Q (⟨d, .call { callee := .builtin .append, args := #[x, y], argTypes := #[T, T] }, ty, pos, af, none⟩ :: rest) n env w := by
  obtain ⟨v', w', h1, h2, h3, h4⟩ := run_app (d := d) (ty := ty) (pos := pos) (af := af) (g := none) hT hs hx (h.ownAt i hi) hy hu (fun b hb => .inr ⟨i, by rw [hi]; exact hb⟩) hb hm
  refine wl_ok h1 (k w' v' (h.step i h3 (fun b hb _ => by rw [hi]; exact hb) (fun b hb hl => by rw [hi]; exact h4 b hb hl) ?_))
  refine OwnSl.go h2 (Keep.refl BE w') (fun _ h => h.elim) (fun _ h => h.elim) (fun b hb _ => ?_)
  rcases hb with hb | hb | hb
  · exact .inl (.inl hb)
  · exact .inl (.inr (rest_all hb))
  · exact .inr hb
theorem run_bs {α : Type} {R : Rep α} {E : TypeId} {sz bytes : Nat} {A : BS} {parts : Array (Nat × Operand)} {len : Nat} {vs : List Value} {xs : List α} (hT : ElemOf P T E sz bytes) (hs : R.sz = sz)
    (hx : (parts.toList.map fun p => (p.1, ev n env p.2)) = vs.zipIdx.map fun p => (p.2, p.1)) (hlen : vs.length = len) (hr : RdAll R w A vs xs) (hA : ∀ b, A b → b < w.heap.size) (hsm : len * sz ≤ 16777216) :
    ∃ u w', (execOp (ev n env) ⟨d, .buildSlice T len parts, ty, pos, af, g⟩).run P w = .ok (.value u) w' ∧ Grow w w' ∧ OwnSl R E w' A u xs ∧ ∀ b, ob u b → w.heap.size = b := by
  subst hs
  subst hlen
  obtain ⟨i, z, hi, hz, hsz, hby, hzs⟩ := hT.info
  have hsizes := hr.sizes
  have hlx := hr.len
  let zero : Array Value := if vs.length * R.sz = 0 then #[] else z.cells
  let base : Array Value := (Array.range (vs.length * R.sz)).map (zero[· % zero.size]!)
  have hbase : base.size = vs.length * R.sz := by simp [base]
  obtain ⟨out, ho1, ho2⟩ := fill_parts R.pos vs 0 base hsizes (by rw [hbase]; simp)
  have hflat := flat_len hsizes
  have ho3 : out.toList = (vs.map fun v => v.cells.toList).flatten := by
    rw [ho2, Nat.zero_mul]
    simp only [spl, List.take_zero, List.nil_append, Nat.zero_add]
    rw [List.drop_eq_nil_of_le (by rw [Array.length_toList, hbase, hflat]; omega), List.append_nil]
  have hos : out.size = vs.length * R.sz := by rw [← Array.length_toList, ho3, hflat]
  have hx2 : (parts.map fun p => (p.1, ev n env p.2)).toList = vs.zipIdx.map fun p => (p.2, p.1) := by simpa using hx
  have hrun : (execOp (ev n env) ⟨d, .buildSlice T vs.length parts, ty, pos, af, g⟩).run P w = .ok (.value (.slice (some ⟨w.heap.size, 0, none⟩) vs.length vs.length)) (w.alloc (.cells out E)) := by
    simp only [execOp, Instr.buildSlice, underlying, sizeOf, typeInfo]
    have hns : ¬ (vs.length * R.sz > 2 ^ 24) := by omega
    by_cases h0 : vs.length * R.sz = 0
    · simp only [Sem.run_bind, run_program, Result.andThen_ok, hT.desc, Sem.run_pure, hi, hsz, Sem.run_ite, h0, if_true]
      have : out = #[] := Array.eq_empty_of_size_eq_zero (by rw [hos, h0])
      have e1 : Instr.fill (fun i => some (i * R.sz, R.sz)) ((Array.range 0).map (fun x => (#[] : Array Value)[x % (#[] : Array Value).size]!)) (parts.map fun p => (p.1, ev n env p.2)).toList = some out := by
        rw [hx2]
        have : base = (Array.range 0).map (fun x => (#[] : Array Value)[x % (#[] : Array Value).size]!) := by simp [base, h0]
        rw [← this]; exact ho1
      rw [e1]
      simp [newRow, World.alloc, -World.alloc_eq]
    · simp only [Sem.run_bind, run_program, Result.andThen_ok, hT.desc, Sem.run_pure, hi, hsz, Sem.run_ite, if_neg hns, h0, if_false, zeroValue, typeInfo, hz]
      have e1 : Instr.fill (fun i => some (i * R.sz, R.sz)) ((Array.range (vs.length * R.sz)).map (fun x => z.cells[x % z.cells.size]!)) (parts.map fun p => (p.1, ev n env p.2)).toList = some out := by
        rw [hx2]
        have : base = (Array.range (vs.length * R.sz)).map (fun x => z.cells[x % z.cells.size]!) := by simp [base, zero, h0]
        rw [← this]; exact ho1
      rw [e1]
      simp [newRow, World.alloc, -World.alloc_eq]
  refine ⟨_, _, hrun, Grow.alloc _ _, ⟨out.toList, ⟨by rw [Array.length_toList, hos, hlx], .inr ⟨w.heap.size, vs.length, out, by rw [hlx], Nat.zero_le _, alloc_blk _ _, by omega, ?_, hos, ?_⟩⟩, ?_⟩, ?_⟩
  · unfold maxLen
    have : vs.length ≤ vs.length * R.sz := Nat.le_mul_of_pos_right _ R.pos
    omega
  · rw [List.take_of_length_le]; rw [Array.length_toList, hos, hlx]; exact Nat.le_refl _
  · intro i hi'
    have h5 := R.go (A' := fun b => A b ∨ ob (.slice (some ⟨w.heap.size, 0, none⟩) vs.length vs.length) b) (hr.at i hi') (Grow.alloc w (.cells out E)) (fun _ h => h.elim) (fun b hb hl => by
      rcases hb with hb | hb
      · exact hb
      · simp [ob] at hb; omega)
    rw [ho3]
    exact h5
  · intro b hb; simp [ob] at hb; exact hb.symm
theorem w_bs {α : Type} {R : Rep α} {E : TypeId} {sz bytes : Nat} {parts : Array (Nat × Operand)} {len : Nat} {vs : List Value} {xs : List α} (h : SH w0 M K w hp) (i : Nat) (hT : ElemOf P T E sz bytes) (hs : R.sz = sz)
    (hx : (parts.toList.map fun p => (p.1, ev n env p.2)) = vs.zipIdx.map fun p => (p.2, p.1)) (hlen : vs.length = len) (hr : RdAll R w (SH.A M hp) vs xs) (hsm : Nat.ble (len * sz) 16777216 = true)
    (k : ∀ w' u, SH w0 M K w' (hupd hp i (.own R E u xs)) → WL P ops Q rest n (updo env d u) w') :
    WL P ops Q (⟨d, .buildSlice T len parts, ty, pos, af, none⟩ :: rest) n env w := by
  obtain ⟨u, w', h1, h2, h3, h4⟩ := run_bs (d := d) (ty := ty) (pos := pos) (af := af) (g := none) hT hs hx hlen hr h.lt (Nat.le_of_ble_eq_true hsm)
  exact wl_ok h1 (k w' u (h.gotOwn i h2 h3 (fun b hb => Nat.le_of_eq (h4 b hb))))
theorem run_places {P : Program} {w : World} : ∀ (fs : List Field) (pl : List (Nat × Nat)), fs.map (fun f => (f.offset, (P.info? f.type).map (·.size))) = pl.map (fun p => (p.1, some p.2)) →
    (fs.mapM (m := Sem) fun f => do pure (f.offset, ← sizeOf f.type)).run P w = .ok pl w
  | [], [], _ => rfl
  | [], _ :: _, h => by simp at h
  | _ :: _, [], h => by simp at h
  | f :: fs, p :: pl, h => by
    simp only [List.map_cons, List.cons.injEq, Prod.mk.injEq] at h
    obtain ⟨⟨h1, h2⟩, h3⟩ := h
    have ih := run_places (w := w) fs pl h3
    obtain ⟨i, hi, hs⟩ : ∃ i, P.info? f.type = some i ∧ i.size = p.2 := by
      cases hi : P.info? f.type with
      | none => simp [hi] at h2
      | some i => simp [hi] at h2; exact ⟨i, rfl, h2⟩
    rw [List.mapM_cons]
    simp only [Sem.run_bind, sizeOf, typeInfo, run_program, Result.andThen_ok, hi, Sem.run_pure, hs, h1]
    simp only [sizeOf, typeInfo] at ih
    rw [ih]
    simp
theorem r_build {zs out : List Value} {pl : List (Nat × Nat)} {parts : Array (Nat × Operand)} {pv : List (Nat × Value)} (hT : Struct P T zs pl) (hp : (parts.toList.map fun p => (p.1, ρ p.2)) = pv) (hf : FillOk pl zs pv out) :
    (execOp ρ ⟨d, .build T parts, ty, pos, af, g⟩).run P w = .ok (.value (.agg out.toArray)) w := by
  obtain ⟨fs, hfs, hpl⟩ := hT.desc
  obtain ⟨i, hi, hz⟩ : ∃ i, P.info? T = some i ∧ i.zero = some (.agg zs.toArray) := by
    have := hT.zero
    cases hi : P.info? T with
    | none => simp [hi] at this
    | some i => simp [hi] at this; exact ⟨i, rfl, this⟩
  have hm := run_places (w := w) fs.toList pl hpl
  have hm2 : (fs.mapM (m := Sem) fun f => do pure (f.offset, ← sizeOf f.type)).run P w = .ok pl.toArray w := by
    rw [Array.mapM_eq_mapM_toList]
    simp only [Sem.run_map, hm, Result.andThen_ok]
  have hpv : (parts.map fun p => (p.1, ρ p.2)).toList = pv := by rw [← hp]; simp
  have hfill := fill_ok hf
  simp only [execOp, Instr.build, zeroValue, typeInfo, underlying]
  simp only [Sem.run_bind, run_program, Result.andThen_ok, hi, Sem.run_pure, hz, hfs, hm2, hpv, Value.cells]
  have e : (fun (x : Nat) => pl.toArray[x]?) = fun (i : Nat) => pl[i]? := by funext x; simp
  rw [e, hfill]
  simp
def isNil : Value → Bool | .slice none _ _ => true | _ => false
theorem r_eqnil {α : Type} {R : Rep α} {T2 E : TypeId} {sz : Nat} {B A : BS} {l : List α} {w1 : World} (hT : SliceOf P T E sz) (hx : ρ x = v) (hv : Rd2 R w1 B A v l) (hy : ρ y = .slice none 0 0) : (execOp ρ ⟨d, .binOp .eql T x y T2, ty, pos, af, g⟩).run P w = .ok (.value (.bool (isNil v))) w := by
  obtain ⟨a, cap, rfl, h1, h2, h3, h4⟩ := hv
  have key : ∀ a l c, (Op.equalIn Op.maxDepth T (.slice a l c) (.slice none 0 0)).run P w = .ok a.isNone w := by
    intro a l c
    show (Op.equalIn (9999 + 1) T (.slice a l c) (.slice none 0 0)).run P w = _
    unfold Op.equalIn
    simp only [Sem.run_bind, underlying, run_program, Result.andThen_ok, hT.desc, Sem.run_pure]
    cases a <;> simp
  cases a <;> simp [execOp, hx, hy, eqGuard, binOp, isNil, Op.equal, key]
theorem nil_of_isNil {α : Type} {R : Rep α} {B A : BS} {l : List α} (hv : Rd2 R w B A v l) (h : isNil v = true) : v = .slice none 0 0 ∧ l = [] := by
  obtain ⟨a, cap, rfl, h1, h2, h3, h4⟩ := hv
  cases a with
  | none =>
    have := h3 rfl
    subst this
    have hl : l.length = 0 := by omega
    exact ⟨by rw [hl], List.eq_nil_of_length_eq_zero hl⟩
  | some a => simp [isNil] at h
/-- Elements of one's own slice: where they lie, what they hold. -/
theorem SH.elO {α : Type} {R : Rep α} {E : TypeId} {l : List α} {k : Int} {a : α} {b : Nat} (h : SH w0 M K w hp) (i : Nat) (hi : hp i = .own R E v l) (hb : ob v b) (hk : l[k.toNat]? = some a) :
    ∃ cs, At w b (k.toNat * R.sz) cs ∧ R.rd w (SH.A M hp) cs a := by
  have hkl : k.toNat < l.length := by
    rcases Nat.lt_or_ge k.toNat l.length with h | h
    · exact h
    · rw [List.getElem?_eq_none h] at hk; cases hk
  have hla : l[k.toNat] = a := by rw [List.getElem?_eq_getElem hkl] at hk; exact Option.some.inj hk
  obtain ⟨a', cap, rfl, h1, h2, h3, h4⟩ := h.ownS i hi
  obtain ⟨b', o, cells, F, fz, rfl, _, e3, e4⟩ := h4 k.toNat hkl
  have : b = b' := hb
  subst this
  have ho : o = 0 := by
    obtain ⟨xs, q1, _⟩ := h.ownAt i hi
    rcases q1.2 with ⟨e, _⟩ | ⟨_, _, _, e, _⟩
    · cases e
    · cases e; rfl
  subst ho
  rw [hla] at e4
  rw [Nat.zero_add] at e4
  exact ⟨_, ⟨cells, F, fz, e3, by rw [R.len e4]⟩, e4⟩
theorem SH.ixO {α : Type} {R : Rep α} {E : TypeId} {sz : Nat} {l : List α} {k : Int} {a : α} (h : SH w0 M K w hp) (i : Nat) (hi : hp i = .own R E v l) (hT : SliceOf P T E sz) (hs : R.sz = sz) (hk0 : 0 ≤ k) (hk : l[k.toNat]? = some a) :
    ∃ b, ob v b ∧ IxOk P T v k (.pointer (some ⟨b, k.toNat * sz, none⟩)) := by
  subst hs
  have hkl : k.toNat < l.length := by
    rcases Nat.lt_or_ge k.toNat l.length with h | h
    · exact h
    · rw [List.getElem?_eq_none h] at hk; cases hk
  obtain ⟨xs, q1, _⟩ := h.ownAt i hi
  rcases q1.2 with ⟨rfl, hn⟩ | ⟨g', cap, cur, rfl, _⟩
  · omega
  refine ⟨g', rfl, fun ρ x y w d ty pos af g hx hy => ?_⟩
  obtain ⟨i, hi, hs⟩ : ∃ i, P.info? E = some i ∧ i.size = R.sz := by
    have := hT.info
    cases hi : P.info? E with
    | none => simp [hi] at this
    | some i => simp [hi] at this; exact ⟨i, rfl, this⟩
  simp only [execOp, Instr.indexAt, hx, hy, asIntOf, underlying, sizeOf, typeInfo]
  have ha : (⟨g', 0, none⟩ : Addr).add (k.toNat * R.sz) = ⟨g', k.toNat * R.sz, none⟩ := by
    unfold Addr.add
    split
    · next hz => rw [hz]
    · simp
  have hk3 : k < (l.length : Int) := by omega
  simp [hT.desc, hi, hs, hk0, hk3, ha]
/-- One's own slice, cut at its end. -/
theorem SH.cutO {α : Type} {R : Rep α} {E : TypeId} {sz : Nat} {l : List α} {b : Int} (h : SH w0 M K w hp) (i : Nat) (hi : hp i = .own R E v l) (hT : SliceOf P T E sz) (hs : R.sz = sz) (hb0 : 0 ≤ b) (hb : b ≤ l.length) :
    ∃ u, SH w0 M K w (hupd hp i (.own R E u (l.take b.toNat))) ∧ SlOk P T v 0 b l.length u := by
  subst hs
  have hbl : b.toNat ≤ l.length := by omega
  have hlen : (l.take b.toNat).length = b.toNat := by rw [List.length_take]; omega
  obtain ⟨xs, q1, q2⟩ := h.ownAt i hi
  obtain ⟨u, hu, hr⟩ := r_sl (P := P) (T := T) hT (h.ownS i hi) (Int.le_refl 0) hb0 hb
  have hv : ∃ cap, v = .slice none 0 0 ∨ ∃ g, v = .slice (some ⟨g, 0, none⟩) l.length cap := by
    rcases q1.2 with ⟨rfl, _⟩ | ⟨g', cap, cur, rfl, _⟩
    · exact ⟨0, .inl rfl⟩
    · exact ⟨cap, .inr ⟨g', rfl⟩⟩
  have hop := hu (fun o => match o with | .tmp 0 => v | .const v => v | _ => undef) (.tmp 0) none (some (.const (.int .i64 b))) w none 0 "" #[] none rfl (.inl ⟨rfl, rfl⟩) (.inr rfl)
  rcases q1.2 with ⟨rfl, hn⟩ | ⟨g', cap, cur, rfl, e1, e2, e3, e4, e5, e6⟩
  · have hl0 : l = [] := List.eq_nil_of_length_eq_zero hn
    subst hl0
    obtain ⟨a, cap, rfl, h1, h2, h3, h4⟩ := hr
    have hb1 : b = 0 := by simp at hb; omega
    subst hb1
    have : a = none ∧ cap = 0 := by
      obtain ⟨i', hi'⟩ : ∃ i', P.info? E = some i' := by
        have := hT.info
        cases hq : P.info? E with
        | none => simp [hq] at this
        | some i => exact ⟨i, rfl⟩
      simp [execOp, Instr.sliceAt, Instr.slice, underlying, hT.desc, Instr.sliceBounds, Instr.sliceBound, asIntOf, sizeOf, typeInfo, hi', cut] at hop
      exact ⟨hop.1.symm, hop.2.symm⟩
    obtain ⟨rfl, rfl⟩ := this
    refine ⟨_, ?_, hu⟩
    have := h.step (c := .own R E (.slice none 0 0) ([] : List α)) i (Keep.refl BE w) (fun _ h => h.elim) (fun _ h => h.elim) OwnSl.nil
    simpa [cut] using this
  · have hu2 : u = .slice (some ⟨g', 0, none⟩) b.toNat cap := by
      obtain ⟨i', hi', his⟩ : ∃ i', P.info? E = some i' ∧ i'.size = R.sz := by
        have := hT.info
        cases hq : P.info? E with
        | none => simp [hq] at this
        | some i => simp [hq] at this; exact ⟨i, rfl, this⟩
      obtain ⟨bn, rfl⟩ := Int.eq_ofNat_of_zero_le hb0
      have hbc : bn ≤ cap := by simp at hbl; omega
      have hadd : (⟨g', 0, none⟩ : Addr).add 0 = ⟨g', 0, none⟩ := rfl
      have h0b : (0 : Int) ≤ (bn : Int) := Int.natCast_nonneg bn
      have hbi : (bn : Int) ≤ (cap : Int) := by omega
      by_cases hc0 : cap = 0
      · subst hc0
        have hb0 : bn = 0 := by omega
        subst hb0
        simp [execOp, Instr.sliceAt, Instr.slice, underlying, hT.desc, Instr.sliceBounds, Instr.sliceBound, asIntOf, sizeOf, typeInfo, hi', his] at hop
        simpa using hop.symm
      · simp [execOp, Instr.sliceAt, Instr.slice, underlying, hT.desc, Instr.sliceBounds, Instr.sliceBound, asIntOf, sizeOf, typeInfo, hi', his, hbc, hc0, hadd] at hop
        simpa using hop.symm
    subst hu2
    refine ⟨_, h.step (c := .own R E (.slice (some ⟨g', 0, none⟩) b.toNat cap) (l.take b.toNat)) i (Keep.refl BE w) (fun _ h => h.elim) (fun x hx _ => by rw [hi]; exact hx) ⟨xs.take (b.toNat * R.sz), ⟨?_, .inr ⟨g', cap, cur, by rw [hlen], e1, e2, ?_, e4, e5, ?_⟩⟩, ?_⟩, hu⟩
    · rw [hlen, List.length_take, q1.1, Nat.min_eq_left (Nat.mul_le_mul_right _ hbl)]
    · rw [hlen]; omega
    · rw [hlen, ← e6, List.take_take, Nat.min_eq_left (Nat.mul_le_mul_right _ hbl)]
    · intro j hj
      rw [hlen] at hj
      have hjl : j < l.length := by omega
      have hq := R.go (A' := fun x => (M x ∨ SH.av hp i (.own R E (.slice (some ⟨g', 0, none⟩) b.toNat cap) (l.take b.toNat)) x) ∨ ob (.slice (some ⟨g', 0, none⟩) b.toNat cap) x) (q2 j hjl) (Keep.refl BE w) (fun _ h => h.elim) (fun x hx _ => by
        rcases hx with (hx | hx | hx) | hx
        · exact .inl (.inl hx)
        · exact .inl (.inr (rest_all hx))
        · exact .inr hx
        · exact .inr hx)
      rw [List.getElem_take]
      rw [List.drop_take, List.take_take, Nat.min_eq_left]
      · exact hq
      · have : (j + 1) * R.sz ≤ b.toNat * R.sz := Nat.mul_le_mul_right _ hj
        rw [Nat.add_mul] at this
        omega
theorem drop_set_take {α : Type} {l : List α} {i o s off : Nat} {x : α} (ho : o = i + off) : ((l.set o x).drop i).take s = ((l.drop i).take s).set off x := by
  subst ho
  rw [List.drop_set, if_neg (by omega), Nat.add_sub_cancel_left, List.take_set]
theorem drop_set_other {α : Type} {l : List α} {i o s : Nat} {x : α} (h : o < i ∨ i + s ≤ o) : ((l.set o x).drop i).take s = (l.drop i).take s := by
  rw [List.drop_set]
  split
  · rfl
  · rw [List.take_set, List.set_eq_of_length_le]
    rw [List.length_take]; omega
/-- A field of an element of a slice of one's own (piece i). -/
theorem w_stO {α : Type} {R : Rep α} {E : TypeId} {sz : Nat} {l : List α} {k : Int} {a a' : α} {b off : Nat} {z u : Value} (h : SH w0 M K w hp) (i : Nat) (hi : hp i = .own R E u l) (hb : ob u b) (hs : R.sz = sz) (hk : l[k.toNat]? = some a) (hT : One P T z) (hx : ev n env x = .pointer (some ⟨b, k.toNat * sz + off, none⟩))
    (hy : ev n env y = v) (h1 : v.oneCell' = true) (hoff : Nat.blt off sz = true) (hset : ∀ cs, R.rd w (SH.A M hp) cs a → R.rd w (SH.A M hp) (cs.set off v) a')
    (kk : ∀ w', SH w0 M K w' (hupd hp i (.own R E u (l.set k.toNat a'))) → WL P ops Q rest n (updo env d undef) w') :
    WL P ops Q (⟨d, .store T x y, ty, pos, af, none⟩ :: rest) n env w := by
  subst hs
  rw [Nat.blt_eq] at hoff
  have hkl : k.toNat < l.length := by
    rcases Nat.lt_or_ge k.toNat l.length with h | h
    · exact h
    · rw [List.getElem?_eq_none h] at hk; cases hk
  have hla : l[k.toNat] = a := by rw [List.getElem?_eq_getElem hkl] at hk; exact Option.some.inj hk
  generalize k.toNat = k at *
  have hown : ∀ b, ob u b → SH.A M hp b := fun b hb => .inr ⟨i, by rw [hi]; exact hb⟩
  obtain ⟨xs, q1, q3⟩ := h.ownAt i hi
  rcases q1.2 with ⟨rfl, hn⟩ | ⟨g', cap, cur, rfl, e1, e2, e3, e4, e5, e6⟩
  · omega
  have hgb : b = g' := hb
  subst hgb
  have hle : (k + 1) * R.sz ≤ l.length * R.sz := Nat.mul_le_mul_right _ hkl
  have hcl : l.length * R.sz ≤ cap * R.sz := Nat.mul_le_mul_right _ e3
  rw [Nat.add_mul] at hle
  have hoc : k * R.sz + off < cur.size := by omega
  have hk2 := Keep.putb w b (.cells (cur.setIfInBounds (k * R.sz + off) v) E (0, 0))
  refine wl_skip (r_store1 hT hx e2 hoc hy h1) (kk _ (h.step i hk2 (fun x hx _ => by rw [hi]; exact hx) (fun x hx _ => by rw [hi]; exact hx) ⟨xs.set (k * R.sz + off) v, ⟨?_, .inr ⟨b, cap, cur.setIfInBounds (k * R.sz + off) v, ?_, e1, ?_, ?_, e4, ?_, ?_⟩⟩, ?_⟩))
  · rw [List.length_set, List.length_set]; exact q1.1
  · rw [List.length_set]
  · rw [putb_blk (lt_of_blk e2)]
  · rw [List.length_set]; exact e3
  · simpa using e5
  · rw [List.length_set, Array.toList_setIfInBounds, List.take_set, e6]
  · intro i' hi'
    have hi2 : i' < l.length := by rwa [List.length_set] at hi'
    have hgo := fun cs a (h : R.rd w (SH.A M hp) cs a) => R.go (A' := fun x => (M x ∨ (SH.av hp i (.own R E (.slice (some ⟨b, 0, none⟩) l.length cap) (l.set k a'))) x) ∨ ob (.slice (some ⟨b, 0, none⟩) l.length cap) x) h hk2 (fun x hx _ => hown x hx) (fun x hx _ => by
      rcases hx with (hx | hx | hx) | hx
      · exact .inl hx
      · exact .inr (rest_all hx)
      · exact hown x hx
      · exact hown x hx)
    have hq := fun j (hj : j < l.length) => R.go (A' := SH.A M hp) (q3 j hj) (Keep.refl BE w) (fun _ h => h.elim) (fun x hx _ => .inl hx)
    by_cases hik : i' = k
    · subst hik
      rw [List.getElem_set_self, drop_set_take rfl]
      exact hgo _ _ (hset _ (hla ▸ hq i' hkl))
    · rw [List.getElem_set_ne (Ne.symm hik), drop_set_other]
      · exact hgo _ _ (hq i' hi2)
      · rcases Nat.lt_or_ge k i' with h5 | h5
        · left
          have : (k + 1) * R.sz ≤ i' * R.sz := Nat.mul_le_mul_right _ h5
          rw [Nat.add_mul] at this
          omega
        · right
          have : (i' + 1) * R.sz ≤ k * R.sz := Nat.mul_le_mul_right _ (by omega)
          rw [Nat.add_mul] at this
          omega
-- regions that draw
structure WK (P : Program) (ops : Array Oper) (w : World) (Q : Act → Prop) (l : List Oper) (n : Nat) (env : Nat → Value) : Prop where
  out : wpQuiet P ops (fun x => x = w) Q l (act n env)
end
section
variable {P : Program} {ops : Array Oper}
theorem still_of_quiet {w : World} {Q : Act → Prop} : ∀ {l : List Oper} {a : Act}, wpQuiet P ops (fun x => x = w) Q l a → wpStill P ops w Q l a
  | [], _, h => h
  | o :: rest, a, h => by
    unfold wpQuiet at h
    unfold wpStill
    split
    · rename_i hw
      rw [if_pos hw] at h
      obtain ⟨v, h1, h2⟩ := h
      have h3 := h1 w rfl
      unfold Oper.quietAt at h3
      unfold Oper.still
      generalize (execOp a.eval o).run P w = r at h3 ⊢
      cases r with
      | ok n w' =>
        cases n <;> simp only [Oper.quietUpon] at h3 <;> simp only [Oper.stillUpon]
        case value u => exact ⟨h3.1, by rw [h3.2]; exact still_of_quiet h2⟩
        case skip => exact ⟨h3.1, by rw [← h3.2]; exact still_of_quiet h2⟩
        case enter f args => exact ⟨h3.1, v, h3.2.mono (fun e w'' h => h), still_of_quiet h2⟩
      | halt x w' => simp only [Oper.quietUpon] at h3
    · rename_i hw
      rw [if_neg hw] at h
      exact still_of_quiet h
end
section
variable {P : Program} {ops : Array Oper} {Q : Exit → Act → World → Prop} {n : Nat} {env : Nat → Value} {w w' w0 : World} {M K : BS} {hp : Nat → Chunk} {rest : List Oper}
  {d : Option Nat} {op : Op} {ty : TypeId} {pos : String} {af : Array Edge} {v : Value} {g : Option (Nat × Bool)} {T : TypeId} {ρ : Operand → Value} {x y : Operand}
variable {Q1 : Act → Prop}
theorem wk_ok (hr : (execOp (ev n env) ⟨d, op, ty, pos, af, none⟩).run P w = .ok (.value v) w) (h : WK P ops w Q1 rest n (updo env d v)) : WK P ops w Q1 (⟨d, op, ty, pos, af, none⟩ :: rest) n env := by
  refine ⟨?_⟩
  unfold wpQuiet
  have hw0 : Region.wanted ⟨d, op, ty, pos, af, none⟩ (yielded ops (act n env).tmps) = true := rfl
  rw [if_pos hw0]
  refine ⟨v, fun w' hw => ?_, ?_⟩
  · subst hw
    unfold Oper.quietAt
    rw [act_eval, hr]
    exact ⟨rfl, rfl⟩
  · rw [act_put]; exact h.out
theorem wk_on {j dj : Nat} {b : Bool} (hd : (ops[j]?).bind (·.dst) = some dj) (hv : ev n env (.tmp dj) = .bool b) (h : WK P ops w Q1 (⟨d, op, ty, pos, af, none⟩ :: rest) n env) : WK P ops w Q1 (⟨d, op, ty, pos, af, some (j, b)⟩ :: rest) n env := by
  have hy := yielded_of (ops := ops) hd hv
  have hw : Region.wanted ⟨d, op, ty, pos, af, some (j, b)⟩ (yielded ops (act n env).tmps) = true := by simp [Region.wanted, hy]
  have hw0 : Region.wanted ⟨d, op, ty, pos, af, none⟩ (yielded ops (act n env).tmps) = true := rfl
  obtain ⟨h⟩ := h
  refine ⟨?_⟩
  unfold wpQuiet at h ⊢
  rw [if_pos hw0] at h
  rw [if_pos hw]
  exact h
theorem wk_skip (hw : Region.wanted ⟨d, op, ty, pos, af, g⟩ (yielded ops (act n env).tmps) = false) (h : WK P ops w Q1 rest n (updo env d undef)) : WK P ops w Q1 (⟨d, op, ty, pos, af, g⟩ :: rest) n env := by
  refine ⟨?_⟩
  unfold wpQuiet
  rw [if_neg (by rw [hw]; decide), act_put]
  exact h.out
theorem wk_off {j dj : Nat} {b b' : Bool} (hd : (ops[j]?).bind (·.dst) = some dj) (hv : ev n env (.tmp dj) = .bool b') (hb : (b' == b) = false) (h : WK P ops w Q1 rest n (updo env d undef)) : WK P ops w Q1 (⟨d, op, ty, pos, af, some (j, b)⟩ :: rest) n env :=
  wk_skip (by have hy := yielded_of (ops := ops) hd hv; simpa [Region.wanted, hy] using hb) h
theorem yielded_undef {j dj : Nat} (hd : (ops[j]?).bind (·.dst) = some dj) (hu : ev n env (.tmp dj) = undef) : yielded ops (act n env).tmps j = none := by
  unfold yielded
  have h1 : (act n env).eval (.tmp dj) = undef := by rw [act_eval]; exact hu
  simp only [hd, Option.bind_some]
  simp only [Act.eval] at h1
  cases h2 : (act n env).tmps[dj]? with
  | none => rfl
  | some x => simp [Array.getD_eq_getD_getElem?, h2] at h1; subst h1; rfl
theorem wk_offU {j dj : Nat} {b : Bool} (hd : (ops[j]?).bind (·.dst) = some dj) (hv : ev n env (.tmp dj) = undef) (h : WK P ops w Q1 rest n (updo env d undef)) : WK P ops w Q1 (⟨d, op, ty, pos, af, some (j, b)⟩ :: rest) n env :=
  wk_skip (by simp [Region.wanted, yielded_undef hd hv]) h
theorem wl_offU {j dj : Nat} {b : Bool} (hd : (ops[j]?).bind (·.dst) = some dj) (hv : ev n env (.tmp dj) = undef) (h : WL P ops Q rest n (updo env d undef) w) : WL P ops Q (⟨d, op, ty, pos, af, some (j, b)⟩ :: rest) n env w := by
  have hw : Region.wanted ⟨d, op, ty, pos, af, some (j, b)⟩ (yielded ops (act n env).tmps) = false := by simp [Region.wanted, yielded_undef hd hv]
  refine ⟨?_⟩
  unfold wpList
  rw [if_neg (by rw [hw]; decide), act_put]
  exact h.out
theorem wk_gd {j dj : Nat} {b want : Bool} (c0 : Bool) (hd : (ops[j]?).bind (·.dst) = some dj) (hv : ev n env (.tmp dj) = gv c0 (.bool b))
    (hr : (c0 && (b == want)) = true → (execOp (ev n env) ⟨d, op, ty, pos, af, none⟩).run P w = .ok (.value v) w) (h : WK P ops w Q1 rest n (updo env d (gv (c0 && (b == want)) v))) :
    WK P ops w Q1 (⟨d, op, ty, pos, af, some (j, want)⟩ :: rest) n env := by
  by_cases hc : (c0 && (b == want)) = true
  · have h0 := gl hc
    have h1 := gr hc
    rw [gvt h0] at hv
    rw [gvt hc] at h
    have hb : b = want := by simpa using h1
    subst hb
    exact wk_on hd hv (wk_ok (hr hc) h)
  · have hc' : (c0 && (b == want)) = false := by simpa using hc
    rw [hc'] at h
    cases c0 with
    | true => exact wk_off hd hv (by simpa using hc') h
    | false => exact wk_offU hd hv h
theorem wk_gd0 {j dj : Nat} {b want : Bool} (hd : (ops[j]?).bind (·.dst) = some dj) (hv : ev n env (.tmp dj) = .bool b)
    (hr : (b == want) = true → (execOp (ev n env) ⟨d, op, ty, pos, af, none⟩).run P w = .ok (.value v) w) (h : WK P ops w Q1 rest n (updo env d (gv (b == want) v))) :
    WK P ops w Q1 (⟨d, op, ty, pos, af, some (j, want)⟩ :: rest) n env :=
  wk_gd true hd hv (fun h => hr (by simpa using h)) (by simpa using h)
theorem wk_nil (h : Q1 (act n env)) : WK P ops w Q1 [] n env := ⟨h⟩
theorem wk_go {l : List Oper} (h : WL P ops Q l n env w) : WK P ops w (fun a => wpList P ops Q l a w) [] n env := ⟨h.out⟩
/-- A region that draws: read-only ahead, then in sequence. -/
theorem wc_tail {id : Nat} (k : Nat) {l : List Oper} (hm : P.follows .mixedOrders = true) (hB : Region.lexTailB .any l.toArray k = true) (h : SH w0 M K w hp)
    (kk : ∀ w, SH w0 M K w hp → WK P l.toArray w (fun a => wpList P l.toArray Q (l.drop k) a w) (l.take k) n env) : WC P (Code.region id l.toArray true) Q n env w :=
  ⟨wp_region_still_tail k hm hB (still_of_quiet (kk _ (h.grow (Grow.drew w))).out)⟩
/-- A region that draws and only reads. -/
theorem wc_still {id : Nat} {l : List Oper} (hm : P.follows .mixedOrders = true) (hB : Region.lexB .any l.toArray = true) (h : SH w0 M K w hp)
    (kk : ∀ w, SH w0 M K w hp → WK P l.toArray w (fun a => ∀ w', w' = w → Q .normal a w') l n env) : WC P (Code.region id l.toArray true) Q n env w :=
  ⟨wp_region_quiet (C := fun x => x = w.drew) hm hB rfl (kk _ (h.grow (Grow.drew w))).out⟩
theorem wk_end (h : Q .normal (act n env) w) : WK P ops w (fun a => ∀ w', w' = w → Q .normal a w') [] n env := ⟨fun _ e => by rw [e]; exact h⟩
end
end Go.LX

namespace Go.LX
open Go.RowKit
section
variable {P : Program} {ops : Array Oper} {Q : Exit → Act → World → Prop} {n : Nat} {env : Nat → Value} {w w' w0 : World} {M K : BS} {hp : Nat → Chunk} {rest : List Oper}
  {d : Option Nat} {op : Op} {ty : TypeId} {pos : String} {af : Array Edge} {v : Value} {g : Option (Nat × Bool)} {T : TypeId} {ρ : Operand → Value} {x y : Operand}
theorem cells_of_one {v : Value} (h : v.oneCell' = true) : v.cells = #[v] := by
  cases v <;> first | rfl | simp [Value.oneCell'] at h
theorem toList_of_one {v : Value} (h : v.oneCell' = true) : v.cells.toList = [v] := by rw [cells_of_one h]
theorem Rd2.rdc {α : Type} {R : Rep α} {A : BS} {l : List α} (h : RdSl R w A v l) : (rSl R).rd w A v.cells.toList l := by
  rw [cells_of_one h.one]
  exact ⟨v, rfl, h⟩
theorem gvs (b : Bool) (v : Value) {u : Value} (h : u = v) : u = gv (b == b) v := by cases b <;> exact h
theorem gvn {c d : Bool} {v : Value} (h : c = true) : gv (c && d) v = gv d v := by rw [h, Bool.true_and]
theorem ones_nil : ∀ v ∈ ([] : List Value), v.oneCell' = true := fun _ h => by cases h
theorem ones_cons {a : Value} {l : List Value} (h1 : a.oneCell' = true) (h2 : ∀ v ∈ l, v.oneCell' = true) : ∀ v ∈ a :: l, v.oneCell' = true := fun v h => by
  rcases List.mem_cons.1 h with rfl | h
  · exact h1
  · exact h2 v h
/-- Is there room for so many elements, of so many bytes each? -/
def Room {α : Type} (bytes : Nat) (l m : List α) : Prop := (l.length + m.length) * bytes ≤ 140737488355328 ∧ l.length + m.length ≤ 9223372036854775807
instance {α : Type} (bytes : Nat) (l m : List α) : Decidable (Room bytes l m) := inferInstanceAs (Decidable (_ ∧ _))
theorem Room.mk {α : Type} {bytes : Nat} {l m : List α} (h1 : (l.length + m.length) * bytes ≤ 140737488355328) (h2 : l.length + m.length ≤ 9223372036854775807) : Room bytes l m := ⟨h1, h2⟩
theorem set1 {α : Type} {R : Rep α} {A : BS} {cs : List Value} {a a' : α} {v : Value} (h : R.rd w A v.cells.toList a') (hq : R.rd w A cs a) (hs : R.sz = 1 := by rfl) (hv : v.oneCell' = true := by assumption) : R.rd w A (cs.set 0 v) a' := by
  have := R.len hq
  rw [hs] at this
  match cs, this with
  | [c], _ => rw [toList_of_one hv] at h; exact h
theorem r_rem {T2 : TypeId} {p m : Int} (hx : ρ x = .int .i64 p) (hy : ρ y = .int .i64 m) (hm : 0 < m) : (execOp ρ ⟨d, .binOp .rem T x y T2, ty, pos, af, g⟩).run P w = .ok (.value (.int .i64 (Int.tmod p m))) w := by
  have hm0 : m ≠ 0 := by omega
  simp [execOp, hx, hy, eqGuard, binOp, Op.intDiv, hm0]
theorem r_remL {T2 : TypeId} {p m : Int} (hx : ρ x = .int .i64 p) (hy : ρ y = .int .i64 m) (hm : 0 < m) : (execOp ρ ⟨d, .binOp .rem T x y T2, ty, pos, af, g⟩).run P w = .ok (.value (.int .i64 (Int.tmod p m))) w := r_rem hx hy hm
theorem w_callIn {f : FuncId} {first captured : Array Value} {xs : Array Operand} {ts : Array TypeId} {args : List Value} (hf : FnOk P f) (hx : ev n env x = .func (.func f) first captured)
    (ha : first.toList ++ xs.toList.map (ev n env) ++ captured.toList = args) (hc : Calls P f args.toArray w (fun e w' => ∃ v, e = .returned v ∧ WL P ops Q rest n (updo env d v) w')) :
    WL P ops Q (⟨d, .call { callee := .value x, args := xs, argTypes := ts }, ty, pos, af, none⟩ :: rest) n env w :=
  w_call hf hx ha hc (fun _ _ h => h)
theorem la_cons {α : Type} {a b : α} {l m : List α} (h : a = b) (h2 : l = m) : a :: l = b :: m := by rw [h, h2]
/-- A guarded call of a callee that hands back one plain value. -/
theorem w_callG {f : FuncId} {first captured : Array Value} {xs : Array Operand} {ts : Array TypeId} {args : List Value} {j dj : Nat} {b want : Bool} (c0 : Bool) (hd : (ops[j]?).bind (·.dst) = some dj) (hv : ev n env (.tmp dj) = gv c0 (.bool b)) (hf : FnOk P f) (hx : ev n env x = .func (.func f) first captured)
    (ha : (c0 && (b == want)) = true → first.toList ++ xs.toList.map (ev n env) ++ captured.toList = args) (hc : Calls P f args.toArray w (fun e w' => Grow w w' ∧ e = .returned v))
    (k : ∀ w', Grow w w' → WL P ops Q rest n (updo env d (gv (c0 && (b == want)) v)) w') :
    WL P ops Q (⟨d, .call { callee := .value x, args := xs, argTypes := ts }, ty, pos, af, some (j, want)⟩ :: rest) n env w := by
  by_cases hcc : (c0 && (b == want)) = true
  · have h0 := gl hcc
    have h1 := gr hcc
    rw [gvt h0] at hv
    have hb : b = want := by simpa using h1
    subst hb
    refine wl_on hd hv (w_call hf hx (ha hcc) hc ?_)
    rintro e w' ⟨hk, rfl⟩
    refine ⟨_, rfl, ?_⟩
    have := k w' hk
    rw [gvt hcc] at this
    exact this
  · have hc' : (c0 && (b == want)) = false := by simpa using hcc
    have h := k w (Keep.refl _ _)
    rw [hc'] at h
    cases c0 with
    | true => exact wl_off hd hv (by simpa using hc') h
    | false => exact wl_offU hd hv h
theorem w_callG0 {f : FuncId} {first captured : Array Value} {xs : Array Operand} {ts : Array TypeId} {args : List Value} {j dj : Nat} {b want : Bool} (hd : (ops[j]?).bind (·.dst) = some dj) (hv : ev n env (.tmp dj) = .bool b) (hf : FnOk P f) (hx : ev n env x = .func (.func f) first captured)
    (ha : (b == want) = true → first.toList ++ xs.toList.map (ev n env) ++ captured.toList = args) (hc : Calls P f args.toArray w (fun e w' => Grow w w' ∧ e = .returned v))
    (k : ∀ w', Grow w w' → WL P ops Q rest n (updo env d (gv (b == want) v)) w') :
    WL P ops Q (⟨d, .call { callee := .value x, args := xs, argTypes := ts }, ty, pos, af, some (j, want)⟩ :: rest) n env w :=
  w_callG true hd hv hf hx (fun h => ha (by simpa using h)) hc (by simpa using k)
theorem SH.outOwn {α : Type} {R : Rep α} {E : TypeId} {l : List α} (h : SH w0 M BE w hp) (i : Nat) (hi : hp i = .own R E v l) : OwnSl R E w M v l ∧ ∀ b, ob v b → w0.heap.size ≤ b :=
  ⟨OwnSl.go (h.ownAt i hi) (Keep.refl BE w) (fun _ h => h.elim) (fun _ h => h.elim) (fun b hb _ => .inl (.inl hb)), fun b hb => h.fresh i b (by rw [hi]; exact hb)⟩
theorem fresh_nil {s : Nat} : ∀ b, ob (.slice none 0 0) b → s ≤ b := fun _ h => h.elim
theorem elem_of {P : Program} {E : TypeId} {z : Value} {s b : Nat} (h : (P.info? E).map (fun i => (i.zero, i.size, i.bytes)) = some (some z, s, b)) (hz : z.cells.size = s) : ∃ i z, P.info? E = some i ∧ i.zero = some z ∧ i.size = s ∧ i.bytes = b ∧ z.cells.size = s := by
  cases hi : P.info? E with
  | none => simp [hi] at h
  | some i => simp [hi] at h; exact ⟨i, z, rfl, h.1, h.2.1, h.2.2, hz⟩
theorem r_max {T2 : TypeId} {p q : Int} (hx : ρ x = .int .i64 p) (hy : ρ y = .int .i64 q) : (execOp ρ ⟨d, .call { callee := .builtin .max, args := #[x, y], argTypes := #[T, T2] }, ty, pos, af, g⟩).run P w = .ok (.value (.int .i64 (max p q))) w := by
  have h : (if q > p then q else p) = max p q := by split <;> omega
  simp [execOp, resolve, invoke, builtin, Builtin.max_, Builtin.max2, hx, hy, h]
theorem r_min {T2 : TypeId} {p q : Int} (hx : ρ x = .int .i64 p) (hy : ρ y = .int .i64 q) : (execOp ρ ⟨d, .call { callee := .builtin .min, args := #[x, y], argTypes := #[T, T2] }, ty, pos, af, g⟩).run P w = .ok (.value (.int .i64 (min p q))) w := by
  have h : (if q < p then q else p) = min p q := by split <;> omega
  simp [execOp, resolve, invoke, builtin, Builtin.min_, Builtin.min2, hx, hy, h]
theorem run_loadVarN {zs vs cs : List Value} {b i : Nat} (h0 : SH w0 M K w hp) (hi : hp i = .blk b cs) (hT : Many P T zs) (hl : vs.length = zs.length) (hv : cs = vs) : (loadVar T ⟨b, 0, none⟩).run P w = .ok (.agg vs.toArray) w := by
  subst hv
  have h := r_ldBN (P := P) (ρ := fun _ => .pointer (some ⟨b, 0, none⟩)) (d := none) (ty := 0) (pos := "") (af := #[]) (g := none) (x := .tmp 0) (o := 0) (vs := cs) h0 i hi hT rfl (by rw [← hl]; simp) hl
  simp only [execOp, Instr.loadAt, Instr.sureAddr] at h
  have h2 : ((loadVar T ⟨b, 0, none⟩).run P w).andThen (fun a w' => Result.ok (Next.value a) w') = Result.ok (Next.value (Value.agg cs.toArray)) w := by simpa using h
  cases hres : (loadVar T ⟨b, 0, none⟩).run P w with
  | ok v w' => rw [hres] at h2; simp at h2; rw [h2.1, h2.2]
  | halt x w' => rw [hres] at h2; simp [Result.andThen] at h2
theorem fin_tct {fn : Func} {R : Ending → World → Prop} {t u a : Tmp} {T : TypeId} {v1 v3 : Value} {zs vs : List Value} {b : Nat} (hr : fn.results = #[.tmp t, .cell a T, .tmp u]) (h1 : ev n env (.tmp t) = v1) (ha : ev n env (.tmp a) = .pointer (some ⟨b, 0, none⟩)) (h2 : ev n env (.tmp u) = v3)
    (h0 : SH w0 M K w hp) (i : Nat) (hi : hp i = .blk b vs) (hT : Many P T zs) (hl : vs.length = zs.length) (h : R (.returned (.tuple #[v1, .agg vs.toArray, v3])) w) : bodyPost P fn R .ret (act n env) w := by
  refine ⟨rfl, _, ?_, h⟩
  have e1 := congrFun (act_eval n env) (.tmp t)
  have e2 := congrFun (act_eval n env) (.tmp u)
  have e3 := congrFun (act_eval n env) (.tmp a)
  rw [h1] at e1
  rw [h2] at e2
  rw [ha] at e3
  simp only [Act.eval] at e1 e2 e3
  rw [Array.getD_eq_getD_getElem?] at e1 e2 e3
  have hl2 := run_loadVarN (P := P) h0 hi hT hl rfl
  unfold results
  rw [hr]
  simp [e1, e2, e3, asAddr, hl2]
theorem out_nil {α : Type} {R : Rep α} {E : TypeId} : OwnSl R E w M (.slice none 0 0) ([] : List α) ∧ ∀ b, ob (.slice none 0 0) b → w0.heap.size ≤ b := ⟨OwnSl.nil, fun _ h => h.elim⟩
theorem SH.moveO {α : Type} {R : Rep α} {E : TypeId} {l : List α} (h : SH w0 M K w hp) (j i : Nat) (hj : hp j = .own R E v l) (hi : hp i = .no) (hij : j ≠ i) : SH w0 M K w (hupd (hupd hp j .no) i (.own R E v l)) := by
  have ho := h.ownAt j hj
  have key : ∀ x b, (hupd (hupd hp j .no) i (.own R E v l) x).own' b → ∃ y, (hp y).own' b ∧ (x = i → y = j) ∧ (x ≠ i → y = x ∧ x ≠ j) := by
    intro x b hb
    by_cases e : x = i
    · subst e; rw [hupd_same] at hb; exact ⟨j, by rw [hj]; exact hb, fun _ => rfl, fun h => absurd rfl h⟩
    · rw [hupd_ne e] at hb
      by_cases e2 : x = j
      · subst e2; rw [hupd_same] at hb; exact hb.elim
      · rw [hupd_ne e2] at hb; exact ⟨x, hb, fun h => absurd h e, fun _ => ⟨rfl, e2⟩⟩
  have hall : ∀ b, allOwn (hupd (hupd hp j .no) i (.own R E v l)) b → allOwn hp b := fun b ⟨x, hx⟩ => let ⟨y, hy, _⟩ := key x b hx; ⟨y, hy⟩
  refine ⟨h.keep, h.ltM, fun x b hb => let ⟨y, hy, _⟩ := key x b hb; h.apM y b hy, fun x => ?_, fun x y hxy b hx hy => ?_, fun x b hb => let ⟨y, hy, _⟩ := key x b hb; h.old y b hy⟩
  · by_cases e : x = i
    · subst e; rw [hupd_same]
      have := h.ok j
      rw [hj] at this
      exact Chunk.sub this (fun b hb _ => hall b hb)
    · rw [hupd_ne e]
      by_cases e2 : x = j
      · subst e2; rw [hupd_same]; trivial
      · rw [hupd_ne e2]; exact Chunk.sub (h.ok x) (fun b hb _ => hall b hb)
  · obtain ⟨x', h1, h2, h3⟩ := key x b hx
    obtain ⟨y', k1, k2, k3⟩ := key y b hy
    have : x' ≠ y' := by
      by_cases e : x = i
      · have e2 : y ≠ i := fun h => hxy (e.trans h.symm)
        rw [h2 e, (k3 e2).1]; exact fun h => (k3 e2).2 h.symm
      · by_cases e2 : y = i
        · rw [k2 e2, (h3 e).1]; exact (h3 e).2
        · rw [(h3 e).1, (k3 e2).1]; exact hxy
    exact h.apart x' y' this b h1 k1
theorem SH.copyR {α : Type} {R : Rep α} {l : List α} (h : SH w0 M K w hp) (j i : Nat) (hj : hp j = .rd R v l) : SH w0 M K w (hupd hp i (.rd R v l)) := h.knowRd i (h.rdAt j hj)
theorem SH.outRd {α : Type} {R : Rep α} {l : List α} (h : SH w0 M K w hp) (i : Nat) (hi : hp i = .rd R v l) : RdSl R w M v l :=
  (h.rdAt i hi).sub (fun b hb _ => .inl hb) (fun b hb _ => .inl hb)
/-- A copy of a slice. -/
def clone {α : Type} (bytes : Nat) (a : List α) : Option (List α) := grd (Room bytes ([] : List α) a) (some a)
/-- An array of two values of one cell. -/
structure Arr2 (P : Program) (T E : TypeId) : Prop where
  desc : P.underlying T = some (.array 2 E)
  zero : ∃ z0 z1, (P.info? T).map (·.zero) = some (some (.agg #[z0, z1]))
  size : (P.info? E).map (·.size) = some 1
  plain : ∃ F, P.underlying E = some (.slice F)
theorem r_build2 {E : TypeId} {x y : Operand} {p q : Value} (hT : Arr2 P T E) (hx : ρ x = p) (hy : ρ y = q) (h1 : p.oneCell' = true) (h2 : q.oneCell' = true) : (execOp ρ ⟨d, .build T #[(0, x), (1, y)], ty, pos, af, g⟩).run P w = .ok (.value (.agg #[p, q])) w := by
  obtain ⟨z0, z1, hz⟩ := hT.zero
  obtain ⟨i, hi, hzi⟩ : ∃ i, P.info? T = some i ∧ i.zero = some (.agg #[z0, z1]) := by
    cases hi : P.info? T with
    | none => simp [hi] at hz
    | some i => simp [hi] at hz; exact ⟨i, rfl, hz⟩
  obtain ⟨j, hj, hsj⟩ : ∃ j, P.info? E = some j ∧ j.size = 1 := by
    have := hT.size
    cases hi : P.info? E with
    | none => simp [hi] at this
    | some i => simp [hi] at this; exact ⟨i, rfl, this⟩
  have c1 := cells_of_one h1
  have c2 := cells_of_one h2
  simp only [execOp, Instr.build, hx, hy, underlying, zeroValue, typeInfo, sizeOf]
  have c0 : (Value.agg #[z0, z1]).cells = #[z0, z1] := rfl
  simp [hi, hzi, hT.desc, hj, hsj, Instr.fill, c1, c2, c0, hx, hy]
theorem r_index2 {E : TypeId} {x y : Operand} {p q v : Value} {k : Nat} (hT : Arr2 P T E) (hx : ρ x = .agg #[p, q]) (hy : ρ y = .int .i64 k) (hv : [p, q][k]? = some v) : (execOp ρ ⟨d, .index T x y, ty, pos, af, g⟩).run P w = .ok (.value v) w := by
  obtain ⟨F, hF⟩ := hT.plain
  obtain ⟨j, hj, hsj⟩ : ∃ j, P.info? E = some j ∧ j.size = 1 := by
    have := hT.size
    cases hi : P.info? E with
    | none => simp [hi] at this
    | some i => simp [hi] at this; exact ⟨i, rfl, this⟩
  have hk : k < 2 := by
    rcases Nat.lt_or_ge k 2 with h | h
    · exact h
    · rw [List.getElem?_eq_none (by simpa using h)] at hv; cases hv
  have hv2 : (#[p, q] : Array Value)[k]? = some v := by simpa using hv
  have hk2 : ((k : Int) < 2) := by omega
  simp only [execOp, Instr.index, hx, hy, underlying, asIntOf, part, isAgg, sizeOf, typeInfo]
  simp [hT.desc, hj, hsj, hF, hk2, hk]
  rw [List.getElem?_eq_getElem (by simpa using hk)] at hv
  exact Option.some.inj hv
/-- A struct of two ints. -/
structure PairI (P : Program) (T : TypeId) : Prop where
  desc : ∃ f0 f1, P.underlying T = some (.struct #[f0, f1]) ∧ f0.name ≠ "_" ∧ f1.name ≠ "_" ∧ f0.offset = 0 ∧ f1.offset = 1 ∧ P.underlying f0.type = some (.int .i64) ∧ P.underlying f1.type = some (.int .i64) ∧ P.plainKey f0.type = true ∧ P.plainKey f1.type = true
  stood : P.stoodInHeld T = false
  guard : P.eqGuardType P.depth T = false
theorem eq_pairI (hT : PairI P T) (a b c e : Int) : (Op.equalIn 10000 T (.agg #[.int .i64 a, .int .i64 b]) (.agg #[.int .i64 c, .int .i64 e])).run P w = .ok (decide (a = c) && decide (b = e)) w := by
  obtain ⟨f0, f1, h1, n0, n1, o0, o1, u0, u1, k0, k1⟩ := hT.desc
  have hF : P.fieldsOf T = #[f0, f1] := by simp [Program.fieldsOf, h1]
  rw [show (10000 : Nat) = 9999 + 1 from rfl, run_equalIn_agg w 9999 T _ _ (by rw [hF]; exact h1) hT.stood, hF]
  simp only [Op.eqFields, n0, n1, ne_eq, not_false_eq_true, if_true, o0, o1, Sem.run_bind]
  rw [run_part_plain w k0 (xs := #[.int .i64 a, .int .i64 b]) (off := 0) (v := .int .i64 a) rfl]
  simp only [Result.andThen_ok]
  rw [run_part_plain w k0 (xs := #[.int .i64 c, .int .i64 e]) (off := 0) (v := .int .i64 c) rfl]
  simp only [Result.andThen_ok]
  rw [show (9999 : Nat) = 9998 + 1 from rfl, run_equalIn_int w 9998 f0.type .i64 .i64 a c u0]
  simp only [Result.andThen_ok, Sem.run_ite, Sem.run_bind]
  by_cases h : a = c
  · subst h
    simp only [beq_self_eq_true, Bool.not_true, Bool.false_eq_true, if_false]
    rw [run_part_plain w k1 (xs := #[.int .i64 a, .int .i64 b]) (off := 1) (v := .int .i64 b) rfl]
    simp only [Result.andThen_ok]
    rw [run_part_plain w k1 (xs := #[.int .i64 a, .int .i64 e]) (off := 1) (v := .int .i64 e) rfl]
    simp only [Result.andThen_ok]
    rw [run_equalIn_int w 9998 f1.type .i64 .i64 b e u1]
    by_cases h2 : b = e <;> simp [h2]
  · simp [h]
theorem r_eqlP {T2 : TypeId} {a b c e : Int} (hT : PairI P T) (hx : ρ x = .agg #[.int .i64 a, .int .i64 b]) (hy : ρ y = .agg #[.int .i64 c, .int .i64 e]) : (execOp ρ ⟨d, .binOp .eql T x y T2, ty, pos, af, g⟩).run P w = .ok (.value (.bool (decide (a = c) && decide (b = e)))) w := by
  simp only [execOp, hx, hy, Sem.run_bind, run_eqGuard_agg w .eql T x y _ _ hT.guard, Result.andThen_ok, run_eql_struct, eq_pairI hT]
  simp
theorem r_neqP {T2 : TypeId} {a b c e : Int} (hT : PairI P T) (hx : ρ x = .agg #[.int .i64 a, .int .i64 b]) (hy : ρ y = .agg #[.int .i64 c, .int .i64 e]) : (execOp ρ ⟨d, .binOp .neq T x y T2, ty, pos, af, g⟩).run P w = .ok (.value (.bool (!(decide (a = c) && decide (b = e))))) w := by
  simp only [execOp, hx, hy, Sem.run_bind, run_eqGuard_agg w .neq T x y _ _ hT.guard, Result.andThen_ok, run_neq_struct, eq_pairI hT]
  simp
end
section
variable {σ : Type} {n : Nat} {e env0 : Nat → Value} {mod : Nat → Bool} {live : σ → List (Nat × Value)} {J : σ → World → Prop} {w : World}
theorem jend (s : σ) (hJ : J s w) (hH : Holds e (live s) := by repeat (first | exact trivial | refine ⟨rfl, ?_⟩))
    (hA : Agr mod e env0 := by repeat (first | (with_reducible exact Agr.refl _ _) | (with_reducible exact Agr.hav _ _ _) | (with_reducible refine Agr.on ?_) | ((with_reducible refine Agr.hin ?_ ?_); rfl) | (with_reducible refine Agr.un ?_) | ((with_reducible refine Agr.os ?_ ?_); rfl) | ((with_reducible refine Agr.uc ?_ ?_); rfl))) :
    JP n mod env0 live J (act n e) w := ⟨s, e, rfl, hA, hH, hJ⟩
theorem lend {μ : σ → Nat} {s0 : σ} (s : σ) (hJ : J s w) (hμ : μ s < μ s0 := by dsimp only; omega) (hH : Holds e (live s) := by repeat (first | exact trivial | refine ⟨rfl, ?_⟩))
    (hA : Agr mod e env0 := by repeat (first | (with_reducible exact Agr.refl _ _) | (with_reducible exact Agr.hav _ _ _) | (with_reducible refine Agr.on ?_) | ((with_reducible refine Agr.hin ?_ ?_); rfl) | (with_reducible refine Agr.un ?_) | ((with_reducible refine Agr.os ?_ ?_); rfl) | ((with_reducible refine Agr.uc ?_ ?_); rfl))) :
    JL n mod env0 live J μ s0 (act n e) w := ⟨s, e, rfl, hA, hH, hJ, hμ⟩
end
section
variable {P : Program} {Q : Exit → Act → World → Prop} {n : Nat} {env : Nat → Value} {w : World}
theorem wc_rounds {c : Code} (m : Nat) (h : WC P c (Exit.then (Code.rounds P c Q m) Q) n env w) : WC P (Code.loop c) Q n env w := ⟨wp_loop_rounds (m + 1) h.out⟩
theorem then_round {c : Code} {m : Nat} (h : WC P c (Exit.then (Code.rounds P c Q m) Q) n env w) : Exit.then (Code.rounds P c Q (m + 1)) Q .normal (act n env) w := h.out
end
theorem SH.cn {w0 w : World} {M K : BS} {hp : Nat → Chunk} (h : SH w0 M K w hp) (l : List (Nat × Chunk)) (hl : HoldsC hp l := by repeat (first | exact trivial | refine ⟨rfl, ?_⟩)) : SH w0 M K w (hset l) := h.canon l hl
section
variable {α β σ ρ : Type}
theorem drop_lt {l : List α} {k : Nat} (h : decide ((k : Int) < (l.length : Int)) = true) : ∃ x, l[k]? = some x ∧ l.drop k = x :: l.drop (k + 1) := by
  have hk : k < l.length := by have := of_decide_eq_true h; omega
  exact ⟨l[k], List.getElem?_eq_getElem hk, List.drop_eq_getElem_cons hk⟩
theorem drop_ge {l : List α} {k : Nat} (h : decide ((k : Int) < (l.length : Int)) = false) : l.drop k = [] := by
  have := of_decide_eq_false h
  exact List.drop_eq_nil_of_le (by omega)
theorem each_cons {body : α → σ → (σ → ρ) → ρ} {k : σ → ρ} {x : α} {l : List α} {s : σ} : each body k (x :: l) s = body x s (each body k l) := rfl
theorem each_nil {body : α → σ → (σ → ρ) → ρ} {k : σ → ρ} {s : σ} : each body k [] s = k s := rfl
theorem eachI_cons {body : Int → α → σ → (σ → ρ) → ρ} {k : σ → ρ} {x : α} {l : List α} {s : σ} {i : Int} : eachI body k i (x :: l) s = body i x s (eachI body k (i + 1) l) := rfl
theorem eachI_nil {body : Int → α → σ → (σ → ρ) → ρ} {k : σ → ρ} {s : σ} {i : Int} : eachI body k i [] s = k s := rfl
theorem upto_lt {body : Int → σ → (σ → ρ) → ρ} {k : σ → ρ} {s : σ} {i : Int} {j m : Nat} (h : j < m) : upto body k i (m - j) s = body i s (upto body k (i + 1) (m - (j + 1))) := by
  rw [show m - j = (m - (j + 1)) + 1 by omega]; rfl
theorem upto_ge {body : Int → σ → (σ → ρ) → ρ} {k : σ → ρ} {s : σ} {i : Int} {j m : Nat} (h : m ≤ j) : upto body k i (m - j) s = k s := by
  rw [show m - j = 0 by omega]; rfl
theorem again_pos {body : σ → (σ → Option β) → Option β} {m : Nat} {s : σ} {r : β} (h : again body m s = some r) : ∃ m', m = m' + 1 ∧ body s (again body m') = some r := by
  cases m with
  | zero => cases h
  | succ m => exact ⟨m, rfl, h⟩
theorem get_nat {l : List α} {k : Nat} {i : Int} {x : α} (hi : i = (k : Int)) (h : l[k]? = some x) : l[i.toNat]? = some x := by subst hi; simpa using h
theorem nat_nn {k : Nat} {i : Int} (hi : i = (k : Int)) : 0 ≤ i := by omega
theorem nat_rng {l : List α} {k : Nat} {i : Int} (hl : l.length ≤ 9223372036854775807) (hi : i = (k : Int)) (hk : decide (i < (l.length : Int)) = true) : I64 (i + 1) := by
  have := of_decide_eq_true hk
  exact ⟨by omega, by omega⟩
end
end Go.LX

namespace Go.LX
open Go.RowKit
section
variable {P : Program} {ops : Array Oper} {C : World → Prop} {Q : Exit → Act → World → Prop} {n : Nat} {env : Nat → Value} {w w' : World} {rest : List Oper}
  {d : Option Nat} {op : Op} {ty : TypeId} {pos : String} {af : Array Edge} {v : Value} {g : Option (Nat × Bool)} {T : TypeId} {ρ : Operand → Value}
def BndN (o : Option Value) (a other : Nat) : Prop := (o = none ∧ a = other) ∨ o = some (.int .i64 a)
theorem addr_zero (g : Nat) : (⟨g, 0, none⟩ : Addr).add 0 = ⟨g, 0, none⟩ := rfl
theorem r_sliceTo {x : Operand} {lo : Option Operand} {hi : Operand} {E : TypeId} {sz b len cap : Nat} {ad : Option Addr} (hT : SliceOf P T E sz) (hx : ρ x = .slice ad len cap) (ha : ad = none ∨ ∃ g, ad = some ⟨g, 0, none⟩) (hlo : BndN (lo.map ρ) 0 0) (hhi : ρ hi = .int .i64 b) (hb : b ≤ cap) :
    (execOp ρ ⟨d, .slice T x lo (some hi) none, ty, pos, af, g⟩).run P w = .ok (.value (.slice ad b cap)) w := by
  obtain ⟨i, hi', his⟩ : ∃ i, P.info? E = some i ∧ i.size = sz := by
    have := hT.info
    cases hi : P.info? E with
    | none => simp [hi] at this
    | some i => simp [hi] at this; exact ⟨i, rfl, this⟩
  have hbnd : (Instr.sliceBounds true len cap (lo.map ρ) ((some hi).map ρ) none).run P w = .ok (0, b, cap) w := by
    have hbi : (b : Int) ≤ (cap : Int) := by omega
    rcases hlo with ⟨e1, _⟩ | e1
    · simp [Instr.sliceBounds, e1, hhi, Instr.sliceBound, asIntOf, hb]
    · simp [Instr.sliceBounds, e1, hhi, Instr.sliceBound, asIntOf, hb]
  simp only [execOp, Instr.sliceAt, Instr.slice, underlying, hx]
  simp only [Option.map_some, hhi] at hbnd
  rcases ha with rfl | ⟨g, rfl⟩ <;> simp [hT.desc, hbnd, sizeOf, typeInfo, hi', his, hhi, addr_zero]
theorem r_sliceRaw {x : Operand} {lo hi mx : Option Operand} {E : TypeId} {sz gg a b m len cap : Nat} (hT : SliceOf P T E sz) (hx : ρ x = .slice (some ⟨gg, 0, none⟩) len cap) (hlo : BndN (lo.map ρ) a 0) (hhi : BndN (hi.map ρ) b len) (hmx : (mx.map ρ = none ∧ m = cap) ∨ (mx.map ρ = some (.int .i64 m) ∧ hi.map ρ = some (.int .i64 b)))
    (hab : a ≤ b) (hbm : b ≤ m) (hmc : m ≤ cap) :
    (execOp ρ ⟨d, .slice T x lo hi mx, ty, pos, af, g⟩).run P w = .ok (.value (.slice (some (if m = a then ⟨gg, 0, none⟩ else ⟨gg, a * sz, none⟩)) (b - a) (m - a))) w := by
  obtain ⟨i, hi', his⟩ : ∃ i, P.info? E = some i ∧ i.size = sz := by
    have := hT.info
    cases hi : P.info? E with
    | none => simp [hi] at this
    | some i => simp [hi] at this; exact ⟨i, rfl, this⟩
  have hbnd : (Instr.sliceBounds true len cap (lo.map ρ) (hi.map ρ) (mx.map ρ)).run P w = .ok (a, b, m) w := by
    have h0 : (0 : Int) ≤ (a : Int) := Int.natCast_nonneg a
    have h0b : (0 : Int) ≤ (b : Int) := Int.natCast_nonneg b
    have hbm2 : b ≤ cap := by omega
    have ham : a ≤ m := by omega
    rcases hmx with ⟨g1, g2⟩ | ⟨g1, f1⟩
    · subst g2
      rcases hlo with ⟨e1, e2⟩ | e1 <;> rcases hhi with ⟨f1, f2⟩ | f1 <;> (try subst e2) <;> (try subst f2) <;>
        simp [Instr.sliceBounds, e1, f1, g1, Instr.sliceBound, asIntOf, hab, hbm, hbm2]
    · rcases hlo with ⟨e1, e2⟩ | e1 <;> (try subst e2) <;>
        simp [Instr.sliceBounds, e1, f1, g1, Instr.sliceBound, asIntOf, hab, hbm, hmc, ham]
  have ha : (⟨gg, 0, none⟩ : Addr).add (a * sz) = ⟨gg, a * sz, none⟩ := by
    unfold Addr.add
    split
    · next hz => rw [hz]
    · simp
  simp only [execOp, Instr.sliceAt, Instr.slice, underlying, hx]
  simp [hT.desc, hbnd, sizeOf, typeInfo, hi', his, ha]
  split <;> rfl
/-- The row behind a slice, as it lies. -/
structure Raw (w : World) (gg cap sz : Nat) (E : TypeId) (cur : List Value) : Prop where
  blk : w.heap[gg]? = some (.cells cur.toArray E (0, 0))
  len : cur.length = cap * sz
  le : cap ≤ maxLen
theorem addr_add (gg o k : Nat) : (⟨gg, o, none⟩ : Addr).add k = ⟨gg, o + k, none⟩ := by
  unfold Addr.add
  split
  · next hz => rw [hz]; rfl
  · rfl
theorem wl_rawAppend {x y : Operand} {E : TypeId} {sz bytes gg cap a m c j : Nat} {cur : List Value} {ad : Addr} (hT : ElemOf P T E sz bytes) (hr : Raw w gg cap sz E cur) (hx : ev n env x = .slice (some ⟨gg, 0, none⟩) a cap) (hy : ev n env y = .slice (some ad) m c)
    (had : m = 0 ∨ ad = ⟨gg, j * sz, none⟩) (hj : j + m ≤ cap) (ham : a + m ≤ cap) (h1 : ∀ u ∈ (cur.drop (j * sz)).take (m * sz), u.oneCell' = true)
    (h : ∀ w', Keep (fun x => x = gg) w w' → Raw w' gg cap sz E (cur.take (a * sz) ++ (cur.drop (j * sz)).take (m * sz) ++ cur.drop (a * sz + m * sz)) → WL P ops Q rest n (updo env d (.slice (some ⟨gg, 0, none⟩) (a + m) cap)) w') :
    WL P ops Q (⟨d, .call { callee := .builtin .append, args := #[x, y], argTypes := #[T, T] }, ty, pos, af, none⟩ :: rest) n env w := by
  obtain ⟨i, z, hi, hz, hs, hby, hzs⟩ := hT.info
  have hjm : j * sz + m * sz ≤ cap * sz := by rw [← Nat.add_mul]; exact Nat.mul_le_mul_right _ hj
  have hamz : a * sz + m * sz ≤ cap * sz := by rw [← Nat.add_mul]; exact Nat.mul_le_mul_right _ ham
  have hlen := hr.len
  have hnl : ((cur.drop (j * sz)).take (m * sz)).length = m * sz := by rw [List.length_take, List.length_drop]; omega
  have hnews : ∀ k u, ((cur.drop (j * sz)).take (m * sz))[k]? = some u → w.cell? (ad.add k) = some u := by
    intro k u hk
    rcases had with rfl | rfl
    · simp at hk
    · rw [addr_add]
      have hk2 : k < m * sz := by
        rcases Nat.lt_or_ge k (m * sz) with h | h
        · exact h
        · rw [List.getElem?_eq_none (by omega)] at hk; cases hk
      rw [List.getElem?_take, if_pos hk2, List.getElem?_drop] at hk
      simp [World.cell?, hr.blk, hk]
  have hrun := run_append_room (P := P) w T ty E i hT.desc hi gg a cap cur.toArray hr.blk ad m c _ (by rw [hs]; exact hnl) hnews h1 ham (by rw [hs, hnl]; simpa [hlen] using hamz)
  have hrun2 : (execOp (ev n env) ⟨d, .call { callee := .builtin .append, args := #[x, y], argTypes := #[T, T] }, ty, pos, af, none⟩).run P w = .ok (.value (.slice (some ⟨gg, 0, none⟩) (a + m) cap)) (putb w gg (.cells (cur.take (a * sz) ++ (cur.drop (j * sz)).take (m * sz) ++ cur.drop (a * sz + m * sz)).toArray E (0, 0))) := by
    rw [hs, hnl, setRow_putb hr.blk] at hrun
    simp only [execOp, resolve, invoke, builtin, Sem.run_bind, Sem.run_pure, Result.andThen_ok, List.map_toArray, List.map_cons, List.map_nil, hx, hy, hrun]
  refine wl_ok hrun2 (h _ (Keep.putb _ _ _) ⟨putb_blk (lt_of_blk hr.blk), ?_, hr.le⟩)
  rw [List.length_append, List.length_append, hnl, List.length_take, List.length_drop, hlen]
  omega
/-- The zero of a type is of single cells. -/
def ZeroOne (P : Program) (E : TypeId) : Prop := ∃ z, (P.info? E).map (·.zero) = some (some z) ∧ z.cells.all (·.oneCell') = true
theorem zeroCells_one {z : Array Value} {k : Nat} (h : z.all (·.oneCell') = true) : ∀ u ∈ (Builtin.zeroCells z k).toList, u.oneCell' = true := by
  intro u hu
  simp only [Builtin.zeroCells, Array.toList_map, List.mem_map] at hu
  obtain ⟨i, hi, rfl⟩ := hu
  have hi2 : i < k * z.size := by simpa using hi
  have hz : 0 < z.size := by
    rcases Nat.eq_zero_or_pos z.size with h0 | h0
    · rw [h0, Nat.mul_zero] at hi2; omega
    · exact h0
  have hlt : i % z.size < z.size := Nat.mod_lt _ hz
  rw [getElem!_pos z (i % z.size) hlt]
  exact (Array.all_eq_true.1 h) _ hlt
theorem wl_clearRaw {x : Operand} {E : TypeId} {sz bytes gg cap m k c : Nat} {cur : List Value} (hT : ElemOf P T E sz bytes) (hz1 : ZeroOne P E) (hr : Raw w gg cap sz E cur) (hx : ev n env x = .slice (some ⟨gg, m * sz, none⟩) k c) (hk : 0 < k) (hmk : m + k ≤ cap)
    (h : ∀ w' cur', Keep (fun x => x = gg) w w' → Raw w' gg cap sz E cur' → cur'.take (m * sz) = cur.take (m * sz) → WL P ops Q rest n (updo env d (.tuple #[])) w') :
    WL P ops Q (⟨d, .call { callee := .builtin .clear, args := #[x], argTypes := #[T] }, ty, pos, af, none⟩ :: rest) n env w := by
  obtain ⟨i, z, hi, hz, hs, hby, hzs⟩ := hT.info
  obtain ⟨z', hz', hone⟩ := hz1
  have hzz : z' = z := by simp [hi, hz] at hz'; exact hz'.symm
  subst hzz
  have hmz : m * sz + k * sz ≤ cap * sz := by rw [← Nat.add_mul]; exact Nat.mul_le_mul_right _ hmk
  have hlen := hr.len
  have hzl : (Builtin.zeroCells z'.cells k).toList.length = k * sz := by rw [Array.length_toList, size_zeroCells, hzs]
  have hst := run_storeCells_at (P := P) gg (m * sz) E (Builtin.zeroCells z'.cells k).toList 0 cur.toArray w hr.blk (by rw [hzl]; simpa [hlen] using hmz) (zeroCells_one hone)
  rw [setRow_putb hr.blk] at hst
  obtain ⟨k', rfl⟩ : ∃ k', k = k' + 1 := ⟨k - 1, by omega⟩
  have hrun : (execOp (ev n env) ⟨d, .call { callee := .builtin .clear, args := #[x], argTypes := #[T] }, ty, pos, af, none⟩).run P w = .ok (.value (.tuple #[])) (putb w gg (.cells (cur.take (m * sz) ++ (Builtin.zeroCells z'.cells (k' + 1)).toList ++ cur.drop (m * sz + (k' + 1) * sz)).toArray E (0, 0))) := by
    rw [hzl] at hst
    simp only [Nat.add_zero] at hst
    simp only [execOp, resolve, invoke, builtin, Builtin.clear_, underlying, zeroValue, typeInfo, Sem.run_bind, Sem.run_pure, Result.andThen_ok, List.map_toArray, List.map_cons, List.map_nil, hx]
    simp [hT.desc, hi, hz, hst]
  refine wl_ok hrun (h _ _ (Keep.putb _ _ _) ⟨putb_blk (lt_of_blk hr.blk), ?_, hr.le⟩ ?_)
  · rw [List.length_append, List.length_append, hzl, List.length_take, List.length_drop, hlen]
    omega
  · rw [List.append_assoc, List.take_append_of_le_length (by rw [List.length_take]; omega), List.take_take, Nat.min_self]
end
theorem own_raw {α : Type} {R : Rep α} {E : TypeId} {w : World} {A : BS} {v : Value} {l : List α} (h : OwnSl R E w A v l) (hl : 0 < l.length) :
    ∃ gg cap cur, v = .slice (some ⟨gg, 0, none⟩) l.length cap ∧ Raw w gg cap R.sz E cur ∧ l.length ≤ cap ∧ ∀ i (h : i < l.length), R.rd w (fun b => A b ∨ b = gg) ((cur.drop (i * R.sz)).take R.sz) l[i] := by
  obtain ⟨xs, q1, q3⟩ := h
  rcases q1.2 with ⟨rfl, hn⟩ | ⟨gg, cap, cur, rfl, e1, e2, e3, e4, e5, e6⟩
  · omega
  refine ⟨gg, cap, cur.toList, rfl, ⟨by simpa using e2, by simpa using e5, e4⟩, e3, fun i hi => ?_⟩
  have hle : (i + 1) * R.sz ≤ l.length * R.sz := Nat.mul_le_mul_right _ hi
  rw [Nat.add_mul] at hle
  have h5 := q3 i hi
  rw [← e6, List.drop_take, List.take_take, Nat.min_eq_left (by omega)] at h5
  exact h5
theorem rd_ones {α : Type} {R : Rep α} {w : World} {A : BS} {l : List α} {cur : List Value} (h : ∀ i (h : i < l.length), R.rd w A ((cur.drop (i * R.sz)).take R.sz) l[i]) {j m : Nat} (hj : j + m ≤ l.length) : ∀ u ∈ (cur.drop (j * R.sz)).take (m * R.sz), u.oneCell' = true := by
  intro u hu
  obtain ⟨k, hk, rfl⟩ := List.getElem_of_mem hu
  have hk2 : k < m * R.sz := by rw [List.length_take] at hk; omega
  have hp := R.pos
  have hq : k / R.sz < m := Nat.div_lt_of_lt_mul (by rw [Nat.mul_comm]; exact hk2)
  refine R.one (h (j + k / R.sz) (by omega)) _ ?_
  rw [List.mem_iff_getElem?]
  refine ⟨k % R.sz, ?_⟩
  have hlt : k % R.sz < R.sz := Nat.mod_lt _ hp
  rw [List.getElem?_take, if_pos hlt, List.getElem?_drop, List.getElem_take, List.getElem_drop]
  have e : (j + k / R.sz) * R.sz + k % R.sz = j * R.sz + k := by
    rw [Nat.add_mul, Nat.add_assoc, Nat.mul_comm (k / R.sz), Nat.div_add_mod]
  rw [e, List.getElem?_eq_getElem]
theorem raw_del {α : Type} {R : Rep α} {E : TypeId} {w w' : World} {A : BS} {l : List α} {gg cap i j : Nat} {cur cur' : List Value} (hr : Raw w' gg cap R.sz E cur') (hw : Raw w gg cap R.sz E cur) (hk : Keep (fun x => x = gg) w w') (hij : i ≤ j) (hj : j ≤ l.length) (hc : l.length ≤ cap)
    (hrd : ∀ k (h : k < l.length), R.rd w (fun b => A b ∨ b = gg) ((cur.drop (k * R.sz)).take R.sz) l[k])
    (ht : cur'.take ((i + (l.length - j)) * R.sz) = cur.take (i * R.sz) ++ (cur.drop (j * R.sz)).take ((l.length - j) * R.sz)) :
    OwnSl R E w' A (.slice (some ⟨gg, 0, none⟩) (i + (l.length - j)) cap) (l.take i ++ l.drop j) := by
  have hll : (l.take i ++ l.drop j).length = i + (l.length - j) := by rw [List.length_append, List.length_take, List.length_drop]; omega
  have hcl := hw.len
  have hlc : l.length * R.sz ≤ cap * R.sz := Nat.mul_le_mul_right _ hc
  have hjl : j * R.sz ≤ l.length * R.sz := Nat.mul_le_mul_right _ hj
  have hil : i * R.sz ≤ j * R.sz := Nat.mul_le_mul_right _ hij
  have hsub : (l.length - j) * R.sz = l.length * R.sz - j * R.sz := Nat.sub_mul _ _ _
  have hti : (cur.take (i * R.sz)).length = i * R.sz := by rw [List.length_take]; omega
  refine ⟨cur.take (i * R.sz) ++ (cur.drop (j * R.sz)).take ((l.length - j) * R.sz), ⟨?_, .inr ⟨gg, cap, cur'.toArray, ?_, Nat.zero_le _, hr.blk, ?_, hr.le, ?_, ?_⟩⟩, ?_⟩
  · rw [hll, List.length_append, hti, List.length_take, List.length_drop, Nat.add_mul]; omega
  · rw [hll]
  · rw [hll]; omega
  · simpa using hr.len
  · rw [hll]; exact ht
  · intro k hk2
    rw [hll] at hk2
    have hgo := fun cs a (h : R.rd w (fun b => A b ∨ b = gg) cs a) => R.go (A' := fun b => A b ∨ b = gg) h hk (fun x hx _ => .inr hx) (fun _ h _ => h)
    by_cases hki : k < i
    · have hle : (k + 1) * R.sz ≤ i * R.sz := Nat.mul_le_mul_right _ hki
      rw [Nat.add_mul] at hle
      have h5 := hgo _ _ (hrd k (by omega))
      rw [List.getElem_append_left (by rw [List.length_take]; omega), List.getElem_take, List.drop_append_of_le_length (by omega), List.take_append_of_le_length (by rw [List.length_drop]; omega), List.drop_take, List.take_take, Nat.min_eq_left (by omega)]
      exact h5
    · have h5 := hgo _ _ (hrd (j + (k - i)) (by omega))
      have hle : (k - i + 1) * R.sz ≤ (l.length - j) * R.sz := Nat.mul_le_mul_right _ (by omega)
      rw [Nat.add_mul] at hle
      have hik : i * R.sz ≤ k * R.sz := Nat.mul_le_mul_right _ (by omega)
      have hks : (k - i) * R.sz = k * R.sz - i * R.sz := Nat.sub_mul _ _ _
      rw [List.getElem_append_right (by rw [List.length_take]; omega)]
      have e1 : (l.drop j)[k - (l.take i).length]'(by rw [List.length_take, List.length_drop]; omega) = l[j + (k - i)]'(by omega) := by
        rw [List.getElem_drop]; congr 1; rw [List.length_take]; omega
      rw [e1, List.drop_append, List.drop_eq_nil_of_le (by omega), List.nil_append, hti, ← hks, List.drop_take, List.take_take, Nat.min_eq_left (by omega), List.drop_drop, ← Nat.add_mul]
      exact h5
theorem Raw.keep {w w' : World} {gg cap sz : Nat} {E : TypeId} {cur : List Value} {N : BS} (h : Raw w gg cap sz E cur) (hk : Keep N w w') (hn : ¬ N gg) : Raw w' gg cap sz E cur := ⟨hk.blk h.blk hn, h.len, h.le⟩
section
variable {P : Program} {Q : Exit → Act → World → Prop} {n : Nat} {env : Nat → Value} {w w' w0 : World} {M K : BS} {hp : Nat → Chunk}
theorem wc_tail0 {id : Nat} (k : Nat) {l : List Oper} (hm : P.follows .mixedOrders = true) (hB : Region.lexTailB .any l.toArray k = true)
    (kk : ∀ wd, Grow w wd → WK P l.toArray wd (fun a => wpList P l.toArray Q (l.drop k) a wd) (l.take k) n env) : WC P (Code.region id l.toArray true) Q n env w :=
  ⟨wp_region_still_tail k hm hB (still_of_quiet (kk _ (Grow.drew w)).out)⟩
/-- A callee has had one's own slice (piece i) and hands back another one in its stead. -/
theorem SH.given {α : Type} {R : Rep α} {E : TypeId} {v u : Value} {l l' : List α} (h : SH w0 M K w hp) (i : Nat) (hi : hp i = .own R E v l) (ho : OwnSl R E w' (fun b => M b ∨ rest hp i b) u l') (hk : Keep (ob v) w w') (hn : ∀ b, ob u b → b < w.heap.size → ob v b) : SH w0 M K w' (hupd hp i (.own R E u l')) := by
  refine h.step i hk (fun b hb _ => by rw [hi]; exact hb) (fun b hb hl => by rw [hi]; exact hn b hb hl) ?_
  refine OwnSl.go ho (Keep.refl BE w') (fun _ h => h.elim) (fun _ h => h.elim) (fun b hb _ => ?_)
  rcases hb with hb | hb | hb
  · exact .inl (.inl hb)
  · exact .inl (.inr hb)
  · exact .inr hb
theorem SH.giveO {α : Type} {R : Rep α} {E : TypeId} {v : Value} {l : List α} (h : SH w0 M K w hp) (i : Nat) (hi : hp i = .own R E v l) : OwnSl R E w (fun b => M b ∨ rest hp i b) v l :=
  OwnSl.go (h.ownAt i hi) (Keep.refl BE w) (fun _ h => h.elim) (fun _ h => h.elim) (fun b hb _ => .inl (hb.imp id rest_all))
theorem SH.outRdO {α β : Type} {R : Rep α} {R' : Rep β} {E : TypeId} {v u : Value} {l : List α} {l' : List β} (h : SH w0 M K w hp) (i j : Nat) (hi : hp i = .rd R v l) (hj : hp j = .own R' E u l') : RdSl R w (fun b => M b ∨ ob u b) v l :=
  (h.rdAt i hi).sub (fun b hb _ => hb.elim .inl (fun hb => .inr ⟨j, by rw [hj]; exact hb⟩)) (fun b hb _ => hb.elim .inl (fun hb => .inr ⟨j, by rw [hj]; exact hb⟩))
theorem SH.outRdN {α : Type} {R : Rep α} {v : Value} {l : List α} (h : SH w0 M K w hp) (i : Nat) (hi : hp i = .rd R v l) : RdSl R w (fun b => M b ∨ ob (.slice none 0 0) b) v l :=
  (h.rdAt i hi).sub (fun b hb _ => hb.elim .inl (fun hb => hb.elim)) (fun b hb _ => hb.elim .inl (fun hb => hb.elim))
theorem RdSl.upO {α β : Type} {R : Rep α} {R' : Rep β} {E : TypeId} {v u : Value} {l : List α} {l' : List β} {i : Nat} (h : RdSl R w (fun b => SH.A M hp b ∨ ob u b) v l) : RdSl R w (SH.A M (hupd hp i (.own R' E u l'))) v l := by
  have key : ∀ b, SH.A M (hupd hp i (.own R' E u l')) b → SH.A M hp b ∨ ob u b := by
    rintro b (hb | ⟨j, hb⟩)
    · exact .inl (.inl hb)
    · by_cases e : j = i
      · subst e; rw [hupd_same] at hb; exact .inr hb
      · rw [hupd_ne e] at hb; exact .inl (.inr ⟨j, hb⟩)
  exact h.sub (fun b hb _ => key b hb) (fun b hb _ => key b hb)
theorem SH.toSr {α : Type} {R : Rep α} {v : Value} {l : List α} (h : SH w0 M K w hp) (j i : Nat) (hj : hp j = .rd R v l) : SH w0 M K w (hupd hp i (.sr R v l)) :=
  h.know i (fun _ h => h) (Rd2.sub (h.rdAt j hj) (fun b hb _ => .inr hb) (fun b hb _ => hb))
theorem SH.copyS {α : Type} {R : Rep α} {v : Value} {l : List α} (h : SH w0 M K w hp) (j i : Nat) (hj : hp j = .sr R v l) : SH w0 M K w (hupd hp i (.sr R v l)) :=
  h.know i (fun _ h => h) (h.srAt j hj)
theorem del_len {i j l cap sz : Nat} {cur : List Value} (hl : cur.length = cap * sz) (hij : i ≤ j) (hj : j ≤ l) (hc : l ≤ cap) :
    ((cur.take (i * sz) ++ (cur.drop (j * sz)).take ((l - j) * sz) ++ cur.drop (i * sz + (l - j) * sz)).take ((i + (l - j)) * sz)) = cur.take (i * sz) ++ (cur.drop (j * sz)).take ((l - j) * sz) := by
  have h1 : i * sz ≤ j * sz := Nat.mul_le_mul_right _ hij
  have h2 : j * sz + (l - j) * sz = l * sz := by rw [← Nat.add_mul]; congr 1; omega
  have h3 : l * sz ≤ cap * sz := Nat.mul_le_mul_right _ hc
  have ht : (cur.take (i * sz)).length = i * sz := by rw [List.length_take]; omega
  have ht2 : ((cur.drop (j * sz)).take ((l - j) * sz)).length = (l - j) * sz := by rw [List.length_take, List.length_drop]; omega
  rw [Nat.add_mul, List.take_append_of_le_length (by rw [List.length_append, ht, ht2]; omega), List.take_of_length_le (by rw [List.length_append, ht, ht2]; omega)]
/-- What is there without one of them. -/
def del1 {α : Type} (l : List α) (i j : Int) : Option (List α) := if 0 ≤ i ∧ i < j ∧ j ≤ l.length then some (l.take i.toNat ++ l.drop j.toNat) else none
theorem o_del {α : Type} {l r : List α} {i j : Int} (h : del1 l i j = some r) : ∃ a b : Nat, i = a ∧ j = b ∧ a < b ∧ b ≤ l.length ∧ r = l.take a ++ l.drop b := by
  unfold del1 at h
  by_cases hp : 0 ≤ i ∧ i < j ∧ j ≤ l.length
  · rw [if_pos hp] at h; cases h; exact ⟨i.toNat, j.toNat, by omega, by omega, by omega, by omega, rfl⟩
  · rw [if_neg hp] at h; cases h
end
end Go.LX

namespace Go.LX
open Go.RowKit
/-- Where the rest of a list ends: as K says; else as Q says. -/
def selK (K : Act → World → Prop) (Q : Exit → Act → World → Prop) : Exit → Act → World → Prop
  | .normal, a, w => K a w
  | e, a, w => Q e a w
section
variable {P : Program} {ops : Array Oper}
variable {Q : Exit → Act → World → Prop} {n : Nat} {env : Nat → Value} {w w0 : World} {M K : BS} {hp : Nat → Chunk}
/-- Any order, with effects; ws: the world from which the worlds on the way have grown. -/
structure WH (P : Program) (ops : Array Oper) (ws : World) (Q : Exit → Act → World → Prop) (fuel : Nat) (listed : Array Bool) (n : Nat) (env : Nat → Value) (w : World) : Prop where
  out : wpAnyH P .any ops (NoPanic Q) (Grow ws) fuel listed (act n env) w
theorem wc_held {id : Nat} {l : List Oper} (hm : P.follows .mixedOrders = true) (h0 : SH w0 M K w hp)
    (h : ∀ w, SH w0 M K w hp → WH P l.toArray w Q l.length (Array.replicate l.length false) n env w) : WC P (Code.region id l.toArray true) Q n env w :=
  ⟨wp_region_noPanic (wp_region_held (S := Grow w.drew) hm (h _ (h0.grow (Grow.drew w))).out)⟩
theorem held_weak {S S' : World → Prop} (hS : ∀ w, S' w → S w) : ∀ (fuel : Nat) (listed : Array Bool) (a : Act) (w : World), wpAnyH P .any ops Q S' fuel listed a w → wpAnyH P .any ops Q S fuel listed a w
  | 0, _, _, _, h => h
  | fuel + 1, _, _, _, h => ⟨h.1, fun i hi => wpOp_mono (fun a' w' h' => ⟨hS _ h'.1, held_weak hS fuel _ a' w' h'.2⟩) (h.2 i hi)⟩
variable {d : Option Nat} {op : Op} {ty : TypeId} {pos : String} {af : Array Edge} {v : Value} {g : Option (Nat × Bool)} {i fuel : Nat} {listed : Array Bool}
theorem want_none : Region.wanted ⟨d, op, ty, pos, af, none⟩ (yielded ops (act n env).tmps) = true := rfl
theorem want_on {j dj : Nat} {b : Bool} (hd : (ops[j]?).bind (·.dst) = some dj) (hv : ev n env (.tmp dj) = .bool b) : Region.wanted ⟨d, op, ty, pos, af, some (j, b)⟩ (yielded ops (act n env).tmps) = true := by
  have hy := yielded_of (ops := ops) hd hv
  simp [Region.wanted, hy]
theorem want_off {j dj : Nat} {b b' : Bool} (hd : (ops[j]?).bind (·.dst) = some dj) (hv : ev n env (.tmp dj) = .bool b') (hb : (b' == b) = false) : Region.wanted ⟨d, op, ty, pos, af, some (j, b)⟩ (yielded ops (act n env).tmps) = false := by
  have hy := yielded_of (ops := ops) hd hv
  simpa [Region.wanted, hy] using hb
theorem want_undef {j dj : Nat} {b : Bool} (hd : (ops[j]?).bind (·.dst) = some dj) (hv : ev n env (.tmp dj) = undef) : Region.wanted ⟨d, op, ty, pos, af, some (j, b)⟩ (yielded ops (act n env).tmps) = false := by
  have hy := yielded_undef (ops := ops) hd hv
  simp [Region.wanted, hy]
theorem wh_first {ws : World} {o : Oper} (hS : Grow ws w) (hi : ops[i]? = some o) (hs : Region.noSelect ops = true) (hf : Region.free .any ops listed i = true) (hr : (Region.ready .any ops listed).contains i = true)
    (hy : YieldsIf P ops (Grow ws) o v (act n env)) (h : WH P ops ws Q fuel (listed.setIfInBounds i true) n (updo env o.dst v) w) : WH P ops ws Q (fuel + 1) listed n env w := by
  refine ⟨wpAnyH_take hi hs hf hr (fun _ _ _ h => h) hy hS ?_⟩
  rw [act_put]
  exact h.out
theorem wh_ok {ws : World} (i : Nat) (hS : Grow ws w) (hi : ops[i]? = some ⟨d, op, ty, pos, af, g⟩) (hw : Region.wanted ⟨d, op, ty, pos, af, g⟩ (yielded ops (act n env).tmps) = true) (hs : Region.noSelect ops = true) (hf : Region.free .any ops listed i = true) (hr : (Region.ready .any ops listed).contains i = true)
    (he : ∀ wq, Grow ws wq → (execOp (ev n env) ⟨d, op, ty, pos, af, g⟩).run P wq = .ok (.value v) wq) (h : WH P ops ws Q fuel (listed.setIfInBounds i true) n (updo env d v) w) : WH P ops ws Q (fuel + 1) listed n env w :=
  wh_first (o := ⟨d, op, ty, pos, af, g⟩) hS hi hs hf hr (.inl ⟨hw, fun wq hq => by rw [act_eval]; exact he wq hq⟩) h
theorem wh_skip {ws : World} (i : Nat) (hS : Grow ws w) (hi : ops[i]? = some ⟨d, op, ty, pos, af, g⟩) (hw : Region.wanted ⟨d, op, ty, pos, af, g⟩ (yielded ops (act n env).tmps) = false) (hs : Region.noSelect ops = true) (hf : Region.free .any ops listed i = true) (hr : (Region.ready .any ops listed).contains i = true)
    (h : WH P ops ws Q fuel (listed.setIfInBounds i true) n (updo env d undef) w) : WH P ops ws Q (fuel + 1) listed n env w :=
  wh_first (o := ⟨d, op, ty, pos, af, g⟩) hS hi hs hf hr (.inr ⟨hw, rfl⟩) h
theorem wh_done {ws : World} (hr : Region.ready .any ops listed = []) (h : Q .normal (act n env) w) : WH P ops ws Q fuel listed n env w := ⟨wpAnyH_done hr (NoPanic.normal h) fuel⟩
/-- What follows an effect. -/
def after (P : Program) (ops : Array Oper) (ws : World) (Q : Exit → Act → World → Prop) (fuel : Nat) (listed : Array Bool) : Exit → Act → World → Prop :=
  selK (fun a' w' => Grow ws w' ∧ wpAnyH P .any ops (NoPanic Q) (Grow ws) fuel listed a' w') (NoPanic Q)
theorem wh_back {ws : World} (hg : Grow ws w) (h : WH P ops ws Q fuel listed n env w) : after P ops ws Q fuel listed .normal (act n env) w := ⟨hg, h.out⟩
theorem wh_backS {ws : World} (hg : Grow ws w) (h : WH P ops w Q fuel listed n env w) : after P ops ws Q fuel listed .normal (act n env) w := ⟨hg, held_weak (fun _ h => hg.trans h) _ _ _ _ h.out⟩
theorem op_of_wl {K : Act → World → Prop} {Q1 : Exit → Act → World → Prop} (hi : ops[i]? = some ⟨d, op, ty, pos, af, g⟩) (hw : Region.wanted ⟨d, op, ty, pos, af, g⟩ (yielded ops (act n env).tmps) = true)
    (h : WL P ops (selK K Q1) [⟨d, op, ty, pos, af, none⟩] n env w) : wpOp P ops Q1 i K (act n env) w := by
  unfold wpOp
  simp only [hi, hw, if_true]
  have h1 := h.out
  unfold wpList at h1
  rw [if_pos (show Region.wanted _ _ = true from rfl)] at h1
  rcases h1 with h1 | ⟨ha, hl⟩
  rotate_left
  · exact .inr ⟨ha, let ⟨a, w, h⟩ := hl; ⟨a, w, h⟩⟩
  refine .inl ?_
  unfold Oper.wp at h1 ⊢
  have e : (execOp (act n env).eval ⟨d, op, ty, pos, af, g⟩) = execOp (act n env).eval ⟨d, op, ty, pos, af, none⟩ := by unfold execOp; rfl
  rw [e]
  generalize (execOp (act n env).eval ⟨d, op, ty, pos, af, none⟩).run P w = r at h1 ⊢
  cases r with
  | ok nx w' =>
    cases nx with
    | value v => exact h1
    | skip => exact h1
    | defer d => exact h1
    | enter f args =>
      refine Calls.mono h1 (fun e w2 h2 => ?_)
      cases e with
      | returned v => exact h2
      | panicked c => exact h2
      | outgrown => exact h2
    | row r args => exact h1
    | _ => exact h1
  | halt x w' =>
    cases x <;> exact h1
theorem wh_eff {ws : World} (i : Nat) (hr : Region.ready .any ops listed = [i]) (hi : ops[i]? = some ⟨d, op, ty, pos, af, g⟩) (hw : Region.wanted ⟨d, op, ty, pos, af, g⟩ (yielded ops (act n env).tmps) = true)
    (h : WL P ops (after P ops ws Q fuel (listed.setIfInBounds i true)) [⟨d, op, ty, pos, af, none⟩] n env w) : WH P ops ws Q (fuel + 1) listed n env w := by
  refine ⟨wpAnyH_all hr (by simp) (fun k hk => ?_)⟩
  obtain rfl : k = i := by simpa using hk
  exact op_of_wl hi hw h
theorem wh_eff2 {ws : World} {d' : Option Nat} {op' : Op} {ty' : TypeId} {pos' : String} {af' : Array Edge} {g' : Option (Nat × Bool)} (i j : Nat) (hr : Region.ready .any ops listed = [i, j]) (hi : ops[i]? = some ⟨d, op, ty, pos, af, g⟩) (hw : Region.wanted ⟨d, op, ty, pos, af, g⟩ (yielded ops (act n env).tmps) = true)
    (hj : ops[j]? = some ⟨d', op', ty', pos', af', g'⟩) (hw' : Region.wanted ⟨d', op', ty', pos', af', g'⟩ (yielded ops (act n env).tmps) = true)
    (h : WL P ops (after P ops ws Q fuel (listed.setIfInBounds i true)) [⟨d, op, ty, pos, af, none⟩] n env w) (h' : WL P ops (after P ops ws Q fuel (listed.setIfInBounds j true)) [⟨d', op', ty', pos', af', none⟩] n env w) : WH P ops ws Q (fuel + 1) listed n env w := by
  refine ⟨wpAnyH_all hr (by simp) (fun k hk => ?_)⟩
  rcases List.mem_cons.1 hk with rfl | hk
  · exact op_of_wl hi hw h
  · obtain rfl : k = j := by simpa using hk
    exact op_of_wl hj hw' h'
theorem wh_base {ws : World} (hg : Grow ws w) (h : WH P ops w Q fuel listed n env w) : WH P ops ws Q fuel listed n env w := ⟨held_weak (fun _ h => hg.trans h) _ _ _ _ h.out⟩
theorem wh_at {ws a : World} (e : a = ws) (h : WH P ops ws Q fuel listed n env w) : WH P ops a Q fuel listed n env w := e ▸ h
variable {w' : World} {rest : List Oper} {T : TypeId} {x y : Operand}
theorem w_bsG {α : Type} {R : Rep α} {E : TypeId} {sz bytes : Nat} {parts : Array (Nat × Operand)} {len : Nat} {vs : List Value} {xs : List α} (h : SH w0 M K w hp) (i : Nat) (hT : ElemOf P T E sz bytes) (hs : R.sz = sz)
    (hx : (parts.toList.map fun p => (p.1, ev n env p.2)) = vs.zipIdx.map fun p => (p.2, p.1)) (hlen : vs.length = len) (hr : RdAll R w (SH.A M hp) vs xs) (hsm : Nat.ble (len * sz) 16777216 = true)
    (k : ∀ w' u, SH w0 M K w' (hupd hp i (.own R E u xs)) → Grow w w' → (∀ b, ob u b → w.heap.size ≤ b) → WL P ops Q rest n (updo env d u) w') :
    WL P ops Q (⟨d, .buildSlice T len parts, ty, pos, af, none⟩ :: rest) n env w := by
  obtain ⟨u, w', h1, h2, h3, h4⟩ := run_bs (d := d) (ty := ty) (pos := pos) (af := af) (g := none) hT hs hx hlen hr h.lt (Nat.le_of_ble_eq_true hsm)
  exact wl_ok h1 (k w' u (h.gotOwn i h2 h3 (fun b hb => Nat.le_of_eq (h4 b hb))) h2 (fun b hb => Nat.le_of_eq (h4 b hb)))
theorem w_appG {α : Type} {R : Rep α} {E : TypeId} {sz bytes : Nat} {u : Value} {l m : List α} (h : SH w0 M K w hp) (i : Nat) (hi : hp i = .own R E v l) (hu : Rd2 R w BE (SH.A M hp) u m) (hT : ElemOf P T E sz bytes) (hs : R.sz = sz) (hx : ev n env x = v) (hy : ev n env y = u)
    (hb : (l.length + m.length) * bytes ≤ 140737488355328) (hm : l.length + m.length ≤ 9223372036854775807)
    (k : ∀ w' v', SH w0 M K w' (hupd hp i (.own R E v' (l ++ m))) → Keep (ob v) w w' → WL P ops Q rest n (updo env d v') w') :
    WL P ops Q (⟨d, .call { callee := .builtin .append, args := #[x, y], argTypes := #[T, T] }, ty, pos, af, none⟩ :: rest) n env w := by
  obtain ⟨v', w', h1, h2, h3, h4⟩ := run_app (d := d) (ty := ty) (pos := pos) (af := af) (g := none) hT hs hx (h.ownAt i hi) hy hu (fun b hb => .inr ⟨i, by rw [hi]; exact hb⟩) hb hm
  refine wl_ok h1 (k w' v' (h.step i h3 (fun b hb _ => by rw [hi]; exact hb) (fun b hb hl => by rw [hi]; exact h4 b hb hl) ?_) h3)
  refine OwnSl.go h2 (Keep.refl BE w') (fun _ h => h.elim) (fun _ h => h.elim) (fun b hb _ => ?_)
  rcases hb with hb | hb | hb
  · exact .inl (.inl hb)
  · exact .inl (.inr (rest_all hb))
  · exact .inr hb
theorem Keep.fresh {a b c : World} {N : BS} (h : Grow a b) (k : Keep N b c) (hN : ∀ x, N x → a.heap.size ≤ x) : Grow a c := h.step k (fun x hx hl => by have := hN x hx; omega)
end
end Go.LX

namespace Go.LX
open Go.RowKit Go.Deep
/-- What can be read as data of type T lies as R says. -/
def Opens {α : Type} (P : Program) (T : TypeId) (R : Rep α) : Prop :=
  ∀ (H : Type) (enc : TypeId × Value → H) (w : World) (spare : Nat → Bool) (held : Bool) (fuel : Nat) (cs : List Value) (x : DataW H × List MemPlace), DataW.trod enc P w 0 spare held fuel T cs = some x → ∃ d, R.rd w BE cs d
theorem opens_int {P : Program} {T : TypeId} (ht : P.underlying T = some (.int .i64)) : Opens P T rInt := by
  intro H enc w spare held fuel cs x h
  obtain ⟨n, rfl, _, hw⟩ := DataW.trod_int ht h
  exact ⟨n, rfl⟩
theorem opens_bool {P : Program} {T : TypeId} (ht : P.underlying T = some .bool) : Opens P T rBool := by
  intro H enc w spare held fuel cs x h
  obtain ⟨b, rfl, _⟩ := DataW.trod_bool ht h
  exact ⟨b, rfl⟩
theorem opens_slice {α : Type} {P : Program} {T E : TypeId} {R : Rep α} (ht : P.underlying T = some (.slice E)) (hc : P.cellsOf E = R.sz) (h : Opens P E R) : Opens P T (rSl R) := by
  intro H enc w spare held fuel cs x hx
  rcases open_slice ht hx with ⟨rfl, rfl⟩ | ⟨a, len, cap, m, n, D, Pl, rfl, _, hl, hm, hmm, rfl, hel⟩
  · exact ⟨[], _, rfl, Rd2.nil⟩
  · have hlm : len ≤ m := by rw [hmm]; split <;> omega
    have key : ∀ i, i < len → ∃ d : α, ∃ b o cells F fz, a = ⟨b, o, none⟩ ∧ w.heap[b]? = some (.cells cells F fz) ∧ R.rd w BE ((cells.toList.drop (o + i * R.sz)).take R.sz) d := by
      intro i hi
      obtain ⟨cs', h1, h2⟩ := hel i (by omega)
      obtain ⟨d, hd⟩ := h H enc w spare held n cs' _ h2
      refine ⟨d, ?_⟩
      rw [hc] at h1
      obtain ⟨_, hlen, hcell⟩ := World.cells?_some h1
      have hp := R.pos
      have hsp : a.spot = none := by
        obtain ⟨cs0, g1, _⟩ := hel 0 (by omega)
        rw [hc] at g1
        obtain ⟨_, glen, gcell⟩ := World.cells?_some g1
        have g0 := gcell 0 hp
        rw [Nat.zero_mul, add_add, Nat.zero_add] at g0
        have : ∃ v, cs0[0]? = some v := ⟨cs0[0]'(by omega), List.getElem?_eq_getElem (by omega)⟩
        obtain ⟨v, hv⟩ := this
        rw [hv] at g0
        have := World.cell?_spot g0
        simpa [Addr.add] using this
      obtain ⟨b, o, sp⟩ := a
      simp only at hsp
      subst hsp
      have hadd : ∀ k, (⟨b, o, none⟩ : Addr).add k = ⟨b, o + k, none⟩ := by
        intro k; unfold Addr.add; split <;> simp_all
      have hc0 : ∀ j, j < R.sz → w.cell? ⟨b, o + i * R.sz + j, none⟩ = cs'[j]? := by
        intro j hj
        have := hcell j hj
        rw [add_add, hadd] at this
        rw [← this, Nat.add_assoc]
      have h0 := hc0 0 hp
      have hv : cs'[0]? = some (cs'[0]'(by omega)) := List.getElem?_eq_getElem (by omega)
      rw [hv] at h0
      unfold World.cell? at h0
      cases hb : w.heap[b]? with
      | none => simp [hb] at h0
      | some ob =>
        cases ob with
        | cells cells F fz =>
          refine ⟨b, o, cells, F, fz, rfl, hb, ?_⟩
          have e : (cells.toList.drop (o + i * R.sz)).take R.sz = cs' := by
            apply List.ext_getElem?
            intro j
            rw [List.getElem?_take, List.getElem?_drop]
            by_cases hj : j < R.sz
            · rw [if_pos hj, ← hc0 j hj]
              simp [World.cell?, hb]
            · rw [if_neg hj, List.getElem?_eq_none (by omega)]
          rw [e]
          exact hd
        | _ => simp [hb] at h0
    obtain ⟨f, hf⟩ : ∃ f : (i : Nat) → i < len → α, ∀ i hi, ∃ b o cells F fz, a = ⟨b, o, none⟩ ∧ w.heap[b]? = some (.cells cells F fz) ∧ R.rd w BE ((cells.toList.drop (o + i * R.sz)).take R.sz) (f i hi) :=
      ⟨fun i hi => Classical.choose (key i hi), fun i hi => Classical.choose_spec (key i hi)⟩
    refine ⟨List.ofFn (fun i : Fin len => f i.val i.isLt), _, rfl, some a, cap, by simp, by simpa using hl, hm, (fun h => by cases h), ?_⟩
    intro i hi
    have hi' : i < len := by simpa using hi
    obtain ⟨b, o, cells, F, fz, rfl, hb, hr⟩ := hf i hi'
    refine ⟨b, o, cells, F, fz, rfl, fun h => h, hb, ?_⟩
    simpa using hr
/-- A struct's fields, one by one. -/
theorem field_trod {H : Type} {enc : TypeId × Value → H} {P : Program} {w : World} {spare : Nat → Bool} {held : Bool} {T : TypeId} {fs : Array Field} {fuel : Nat} {cs : List Value} {x : DataW H × List MemPlace} (ht : P.underlying T = some (.struct fs)) (h : DataW.trod enc P w 0 spare held fuel T cs = some x) :
    cs.length = P.cellsOf T ∧ ∃ n : Nat, ∀ (i : Nat) (f : Field), fs[i]? = some f → ∃ y : DataW H × List MemPlace, DataW.trod enc P w 0 spare held n f.type ((cs.drop f.offset).take (P.cellsOf f.type)) = some y := by
  obtain ⟨xs, n, _, _, hl, hxs, hf⟩ := DataW.trod_struct ht h
  refine ⟨hl, n, fun i f hi => ?_⟩
  have := hf i f hi
  have hlt : i < xs.length := by
    rw [hxs]
    rcases Nat.lt_or_ge i fs.size with h1 | h1
    · exact h1
    · rw [Array.getElem?_eq_none h1] at hi; cases hi
  rw [List.getElem?_eq_getElem hlt] at this
  exact ⟨_, this⟩
/-- .. each read by its own R. -/
theorem field_opens {α : Type} {H : Type} {enc : TypeId × Value → H} {P : Program} {w : World} {spare : Nat → Bool} {held : Bool} {fs : Array Field} {n : Nat} {cs : List Value} {R : Rep α} {i : Nat} {f : Field}
    (h : ∀ (i : Nat) (f : Field), fs[i]? = some f → ∃ y : DataW H × List MemPlace, DataW.trod enc P w 0 spare held n (Field.type f) ((cs.drop f.offset).take (P.cellsOf f.type)) = some y) (hi : fs[i]? = some f) (hc : P.cellsOf f.type = R.sz) (hR : Opens P f.type R) :
    ∃ d, R.rd w BE ((cs.drop f.offset).take R.sz) d := by
  obtain ⟨y, hy⟩ := h i f hi
  rw [hc] at hy
  exact hR H enc w spare held n _ _ hy
theorem cells_one {l : List Value} {o : Nat} {v : Value} (h : (l.drop o).take 1 = [v]) : l[o]? = some v := by
  have := congrArg (fun l => l[0]?) h
  simpa [List.getElem?_take, List.getElem?_drop] using this
theorem len_s {α : Type} {l : List α} {n : Nat} (h : l.length = n + 1) : ∃ a t, l = a :: t ∧ t.length = n := by
  cases l with
  | nil => simp at h
  | cons a t => exact ⟨a, t, rfl, by simpa using h⟩
theorem rd_bare {α : Type} {R : Rep α} {w : World} {v : Value} {cs : List Value} {l : List α} (h : (rSl R).rd w BE cs l) (hc : cs = [v]) : RdSl R w BE v l := by
  obtain ⟨u, h1, h2⟩ := h
  rw [hc] at h1
  cases h1
  exact h2
theorem nobody {w : World} : ∀ b, BE b → b < w.heap.size := fun _ h => h.elim
end Go.LX
