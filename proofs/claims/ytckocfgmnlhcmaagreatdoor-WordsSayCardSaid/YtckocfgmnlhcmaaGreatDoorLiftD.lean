/-
  Our own library, the fourth part: builders of texts; lists whose elements own lists.
-/
import Derived.Test.YtckocfgmnlhcmaaGreatDoorLiftC
import Derived.Shelf.Strings.Builder1
set_option linter.unusedSimpArgs false
set_option linter.unusedVariables false
namespace Go.LX
open Go.RowKit Go.Proofs Go.Shelf
/-- A strings.Builder in a block of one's own that holds bytes. -/
def BldP (T E : TypeId) (b : Nat) (v : Value) (l : Str) (w : World) (A : BS) : Prop :=
  (∃ p, w.heap[b]? = some (.cells #[p, v] T (0, 0)) ∧ (p = .pointer none ∨ p = .pointer (some ⟨b, 0, none⟩))) ∧ ¬ ob v b ∧ OwnSl rByte E w (fun x => A x ∨ x = b) v l
def bldS (T E : TypeId) (b : Nat) (v : Value) (l : Str) : Pce where
  own x := x = b ∨ ob v x
  P w A := BldP T E b v l w A
  lt := by
    rintro w A x ⟨⟨p, h1, _⟩, _, h3⟩ (rfl | hx)
    · exact lt_of_blk h1
    · exact h3.lt x hx
  go := by
    rintro w w' A A' K ⟨⟨p, h1, h1'⟩, h2, h3⟩ hk hK hKo hA
    refine ⟨⟨p, hk.blk h1 (fun h => hKo b h (.inl rfl)), h1'⟩, h2, h3.go hk (fun x hx hl => .inl (hK x hx hl)) (fun x hx ho => hKo x hx (.inr ho)) (fun x hx hl => ?_)⟩
    rcases hx with hx | hx
    · rcases hA x hx hl with h | h | h
      · exact .inl (.inl h)
      · exact .inl (.inr h)
      · exact .inr h
    · exact .inl (.inr hx)
section
variable {P : Program}
theorem wpList_appS {ops : Array Oper} {rest : List Oper} {o : Oper} {a : Act} {w : World} {Q : Exit → Act → World → Prop} (hgd : o.guard = none) (sl x : Operand) (t u E : TypeId) (i : TypeInfo)
    (ho : o.op = .call { callee := .builtin .append, args := #[sl, x], argTypes := #[t, u] })
    (ht : P.underlying t = some (.slice E)) (hu : P.underlying u = some .string) (hi : P.info? E = some i) (hE : P.underlying E = some (.int .u8)) (hz : i.zero = some (.int .u8 0)) (hsize : i.size = 1) (hby : i.bytes = 1)
    {A : BS} {v : Value} {l s : Str} (hs : a.eval sl = v) (hv : OwnSl rByte E w A v l) (hx : a.eval x = strV s) (hb : l.length + s.length ≤ 140737488355328)
    (h : ∀ v' w', OwnSl rByte E w' A v' (l ++ s) → Keep (ob v) w w' → (∀ b, ob v' b → b < w.heap.size → ob v b) → wpList P ops Q rest (a.put o.dst v') w') : wpList P ops Q (o :: rest) a w := by
  refine wpList_plain hgd fun K hK => ?_
  obtain ⟨d, op, ty, pos, af, g⟩ := o
  simp only at ho hgd
  subst ho
  obtain ⟨v', w', h1, h2, h3, h4⟩ := run_appS (P := P) (ρ := a.eval) (d := d) (ty := ty) (pos := pos) (af := af) (g := none) (T := t) (E := E) (u := u) (x := sl) (y := x) ⟨ht, i, .int .u8 0, hi, hz, hsize, hby, rfl⟩ ⟨⟨_, hE, trivial⟩, by rw [hi]; simp [hz, hsize], rfl⟩ hu hs hv hx (by omega) (by omega)
  have e := hK _ _ (h v' w' h2 h3 h4)
  unfold Oper.wp
  subst hgd
  rw [h1]
  exact e
theorem bld_old {T E : TypeId} {b : Nat} {v : Value} {l : Str} {w : World} {A : BS} (h : BldP T E b v l w A) : ∃ p, w.heap[b]? = some (.cells #[p, v] T (0, 0)) ∧ (p = .pointer none ∨ p = .pointer (some ⟨b, 0, none⟩)) := h.1
/-- The store of its own address. -/
theorem BldP.used {T E : TypeId} {b : Nat} {v : Value} {l : Str} {w : World} {A : BS} (h : BldP T E b v l w A) :
    (w.setCell ⟨b, 0, none⟩ (.pointer (some ⟨b, 0, none⟩))).heap[b]? = some (.cells #[.pointer (some ⟨b, 0, none⟩), v] T (0, 0)) ∧ OwnSl rByte E (w.setCell ⟨b, 0, none⟩ (.pointer (some ⟨b, 0, none⟩))) (fun x => A x ∨ x = b) v l ∧ Keep (fun x => x = b) w (w.setCell ⟨b, 0, none⟩ (.pointer (some ⟨b, 0, none⟩))) := by
  obtain ⟨⟨p, h1, _⟩, h2, h3⟩ := h
  have hk : Keep (fun x => x = b) w (w.setCell ⟨b, 0, none⟩ (.pointer (some ⟨b, 0, none⟩))) := ⟨rfl, rfl, rfl, by simp [World.setCell], fun k hk _ => Below.heap_setCell _ _ _ _ (fun e => hk (by simp [e]))⟩
  refine ⟨by simp [World.setCell, Array.getElem?_modify, h1], h3.go hk (fun x hx _ => .inr hx) (fun x hx ho => ?_) (fun x hx _ => .inl hx), hk⟩
  subst hx
  exact h2 ho
variable {ρ : Ren}
set_option maxHeartbeats 1000000 in
set_option maxRecDepth 100000 in
theorem bld_write (L : Lays.n166 P ρ) (X : Builder.Extra P ρ) {b : Nat} {v : Value} {l s : Str} {w : World} {A : BS} (h : BldP (ρ.t 72) (ρ.t 5) b v l w A) (hlen : l.length + s.length ≤ 140737488355328) :
    Calls P (ρ.f 166) #[.pointer (some ⟨b, 0, none⟩), strV s] w fun e w' => e = .returned (.tuple #[.int .i64 s.length, .nilIface]) ∧ ∃ v', BldP (ρ.t 72) (ρ.t 5) b v' (l ++ s) w' A ∧ Keep (fun x => x = b ∨ ob v x) w w' ∧ (∀ x, ob v' x → x < w.heap.size → ob v x) := by
  obtain ⟨i0, hi, hz0, hz1, hz2⟩ := info_parts X.infoByte
  have mixed := L.mixed
  have t72 := L.t72; have a72 := L.a72; have z72 := L.z72; have v72 := L.v72; have u72 := run_underlying L.t72
  have t70 := L.t70; have a70 := L.a70; have z70 := L.z70; have v70 := L.v70; have u70 := run_underlying L.t70
  have t37 := L.t37; have a37 := L.a37; have z37 := L.z37; have v37 := L.v37; have u37 := run_underlying L.t37
  have t3 := L.t3; have a3 := L.a3; have z3 := L.z3; have v3 := L.v3; have u3 := run_underlying L.t3
  have t9 := L.t9; have a9 := L.a9; have z9 := L.z9; have v9 := L.v9; have u9 := run_underlying L.t9
  have t4 := L.t4; have a4 := L.a4; have z4 := L.z4; have v4 := L.v4; have u4 := run_underlying L.t4
  have t164 := L.t164; have a164 := L.a164; have z164 := L.z164; have v164 := L.v164; have u164 := run_underlying L.t164
  have t5 := X.t5; have a5 := X.a5; have z5 := X.z5; have v5 := X.v5; have u5 := run_underlying X.t5
  have e240 : ∀ args w, (callFunc (ρ.f 240) args).run P w = .ok (.enter (ρ.f 240) args) w := enters_of L.f240 (by kernel_rfl) rfl
  have hcc : Calls P (ρ.f 240) #[.pointer (some ⟨b, 0, none⟩)] w fun e w' => e = .returned (.tuple #[]) ∧ w'.heap[b]? = some (.cells #[.pointer (some ⟨b, 0, none⟩), v] (ρ.t 72) (0, 0)) ∧ OwnSl rByte (ρ.t 5) w' (fun x => A x ∨ x = b) v l ∧ Keep (fun x => x = b) w w' := by
    obtain ⟨p, h1, hp⟩ := h.1
    rcases hp with rfl | rfl
    · refine (Any.Builder_copyCheck_fresh { L with } X.toX72 b w (by rw [Lib.cell_of_heap h1]; rfl) (by simp [World.shape?, h1]) (Lib.frozen_of_heap h1 0)).mono ?_
      rintro e w' ⟨rfl, rfl⟩
      exact ⟨rfl, h.used⟩
    · refine (Any.Builder_copyCheck_used { L with } X.toX72 b w (by rw [Lib.cell_of_heap h1]; rfl)).mono ?_
      rintro e w' ⟨rfl, rfl⟩
      exact ⟨rfl, h1, h.2.2, Keep.refl _ _⟩
  show Calls P (ρ.f 166) #[.pointer (some ⟨b, 0, none⟩), .string ⟨s.toArray⟩] w _
  go_enter L.f166, Body.n166_ntmps ρ
  go_wp2_with (go_at_fn (ρ.f 240); refine hcc.mono ?_)
  rintro e w1 ⟨rfl, hbk, hown, hk1⟩
  have hne := h.2.1
  have c0 : w1.cell? ⟨b, 0, none⟩ = some (.pointer (some ⟨b, 0, none⟩)) := by rw [Lib.cell_of_heap hbk]; rfl
  have c1 : w1.cell? ⟨b, 1, none⟩ = some v := by rw [Lib.cell_of_heap hbk]; rfl
  go_wp2_with (at_builtin; refine wpList_appS rfl _ _ (ρ.t 37) (ρ.t 9) (ρ.t 5) i0 rfl L.t37 L.t9 hi X.t5 hz0 hz1 hz2 rfl hown rfl hlen ?_)
  intro v' w2 hown' hk2 hnew
  have hb2 : w2.heap[b]? = some (.cells #[.pointer (some ⟨b, 0, none⟩), v] (ρ.t 72) (0, 0)) := hk2.blk hbk hne
  have d0 : w2.cell? ⟨b, 0, none⟩ = some (.pointer (some ⟨b, 0, none⟩)) := by rw [Lib.cell_of_heap hb2]; rfl
  have d1 : w2.cell? ⟨b, 1, none⟩ = some v := by rw [Lib.cell_of_heap hb2]; rfl
  have f1 : w2.frozen? ⟨b, 1, none⟩ = false := Lib.frozen_of_heap hb2 1
  have hv1 : v'.oneCell' = true := hown'.one
  have hne' : ¬ ob v' b := fun hx => hne (hnew b hx (lt_of_blk hbk))
  obtain ⟨ao, n', cap, rfl⟩ : ∃ ao n' cap, v' = .slice ao n' cap := by
    obtain ⟨xs, h1, _⟩ := hown'
    rcases h1.2 with ⟨hv, _⟩ | ⟨g, cap, cur, hv, _⟩
    · exact ⟨_, _, _, hv⟩
    · exact ⟨_, _, _, hv⟩
  go_wp2
  go_ret2
  have hk3 : Keep (fun x => x = b) w2 (w2.setCell ⟨b, 1, none⟩ (.slice ao n' cap)) := ⟨rfl, rfl, rfl, by simp [World.setCell], fun k hk _ => Below.heap_setCell _ _ _ _ (fun e => hk (by simp [e]))⟩
  refine ⟨by simp, _, ⟨⟨_, by simp [World.setCell, Array.getElem?_modify, hb2], .inr rfl⟩, hne', hown'.go hk3 (fun x hx _ => .inr hx) (fun x hx ho => by subst hx; exact hne' ho) (fun x hx _ => .inl hx)⟩, ?_, fun x hx hl => hnew x hx (Nat.lt_of_lt_of_le hl hk1.size)⟩
  exact ((hk1.weaken (fun x hx _ => .inl hx)).step hk2 (fun x hx _ => .inr hx)).step hk3 (fun x hx _ => .inl hx)
/-- The text of a builder, at the end. -/
theorem bld_string (L : Lays.n169 P ρ) (X : Builder.Extra P ρ) {b : Nat} {v : Value} {l : Str} {w0 w : World} {M : BS} {hp : Nat → Chunk} (h : SH w0 M BE w hp) (i : Nat) (hi : hp i = .pce (bldS (ρ.t 72) (ρ.t 5) b v l)) :
    Calls P (ρ.f 169) #[.pointer (some ⟨b, 0, none⟩)] w fun e w' => e = .returned (strV l) ∧ SH w0 M BE w' hno := by
  have hb := h.ok i
  rw [hi] at hb
  obtain ⟨⟨p, h1, hp⟩, h2, xs, h3, h4⟩ := hb
  have hbo : w0.heap.size ≤ b := h.fresh i b (by rw [hi]; exact .inl rfl)
  have hxs : xs = Lib.byteCells l := by
    apply List.ext_getElem?
    intro q
    have hl : xs.length = l.length := by simpa [rByte] using h3.1
    rw [Lib.byteCells, List.getElem?_map]
    by_cases hq : q < l.length
    · have := h4 q hq
      have e1 : List.take 1 (List.drop (q * 1) xs) = [.int .u8 (l[q].toNat : Int)] := this
      rw [Nat.mul_one] at e1
      have e2 : (List.take 1 (List.drop q xs))[0]? = some (.int .u8 (l[q].toNat : Int)) := by rw [e1]; rfl
      rw [List.getElem?_take, List.getElem?_drop] at e2
      simp at e2
      rw [e2, List.getElem?_eq_getElem hq]; rfl
    · rw [List.getElem?_eq_none (by omega), List.getElem?_eq_none (by omega)]; rfl
  have hB : Lib.IsBuilder (ρ.t 72) (ρ.t 5) w0.heap.size b (Lib.byteCells l) w := by
    have key : Lib.BuilderAt (ρ.t 72) (ρ.t 5) w0.heap.size b p (Lib.byteCells l) w := by
      refine ⟨hbo, v, h1, ?_, fun e => h2 (ob_row.2 e)⟩
      refine ⟨by rw [Lib.byteCells_length]; omega, ?_⟩
      rcases h3.2 with ⟨e1, e2⟩ | ⟨g, cap, cur, e1, e2, e3, e4, e5, e6, e7⟩
      · exact .inl ⟨e1, by rw [Lib.byteCells_length]; exact e2⟩
      · refine .inr ⟨g, cap, cur, by rw [Lib.byteCells_length]; exact e1, ?_, e3, by rw [Lib.byteCells_length]; exact e4, e5, e6, by rw [Lib.byteCells_length, ← hxs]; exact e7⟩
        exact h.fresh i g (by rw [hi]; right; rw [e1]; simp [ob])
    rcases hp with rfl | rfl
    · exact .inl key
    · exact .inr key
  refine (Any.Builder_String_any L X w0.heap.size b l w hB h.keep.size).mono ?_
  rintro e w' ⟨rfl, hw⟩
  refine ⟨rfl, ⟨⟨hw.os.trans h.keep.os, hw.tape.trans h.keep.tape, hw.output.trans h.keep.output, Nat.le_trans h.keep.size hw.size, fun k hk hl => ?_⟩, h.ltM, fun _ _ h => h.elim, fun _ => trivial, fun _ _ _ _ h => h.elim, fun _ _ h => h.elim⟩⟩
  rw [hw.block k hl]
  exact h.keep.block k hk hl
end
end Go.LX

namespace Go.LX
open Go.RowKit Go.Proofs
section
variable {P : Program} {ops : Array Oper} {Q : Exit → Act → World → Prop} {n : Nat} {env : Nat → Value} {w w' w0 : World} {M K : BS} {hp : Nat → Chunk} {rest : List Oper}
  {d : Option Nat} {op : Op} {ty : TypeId} {pos : String} {af : Array Edge} {v : Value} {g : Option (Nat × Bool)} {T : TypeId} {ρ : Operand → Value} {x y : Operand} {i fuel : Nat} {listed : Array Bool}
theorem SH.pceAt {S : Pce} (h : SH w0 M K w hp) (i : Nat) (hi : hp i = .pce S) : S.P w (SH.A M hp) := by
  have := h.ok i; rw [hi] at this; exact this
/-- A piece of whatever kind is turned; the world changes on it alone. -/
theorem SH.pceStep {S S' : Pce} (h : SH w0 M K w hp) (i : Nat) (hi : hp i = .pce S) (hP : S'.P w' (SH.A M hp)) (hk : Keep S.own w w') (hn : ∀ b, S'.own b → b < w.heap.size → S.own b) : SH w0 M K w' (hupd hp i (.pce S')) := by
  refine h.step i hk (fun b hb _ => by rw [hi]; exact hb) (fun b hb hl => by rw [hi]; exact hn b hb hl) ?_
  refine S'.go hP (Keep.refl BE w') (fun _ h => h.elim) (fun _ h => h.elim) (fun b hb _ => ?_)
  rcases hb with hb | hb | hb
  · exact .inl (.inl hb)
  · exact .inl (.inr (rest_all hb))
  · exact .inr hb
theorem SH.newBld (h : SH w0 M K w hp) (i : Nat) (T E : TypeId) : SH w0 M K (w.alloc (.cells #[.pointer none, .slice none 0 0] T)) (hupd hp i (.pce (bldS T E w.heap.size (.slice none 0 0) []))) := by
  refine h.learn i (Grow.alloc _ _) (fun b hb => ?_) ?_
  · rcases hb with rfl | hb
    · exact Nat.le_refl _
    · exact hb.elim
  · exact ⟨⟨_, alloc_blk _ _, .inl rfl⟩, fun h => h, OwnSl.nil⟩
theorem w_allocBld {E : TypeId} (h : SH w0 M K w hp) (i : Nat) (hT : Many P T [.pointer none, .slice none 0 0]) (k : ∀ w' b, SH w0 M K w' (hupd hp i (.pce (bldS T E b (.slice none 0 0) []))) → WL P ops Q rest n (updo env d (.pointer (some ⟨b, 0, none⟩))) w') : WL P ops Q (⟨d, .alloc T, ty, pos, af, none⟩ :: rest) n env w :=
  wl_ok (r_allocN hT) (k _ _ (h.newBld i T E))
end
end Go.LX

namespace Go.LX
open Go.RowKit Go.Proofs
/-- An element with one slice of its own: its cells, what the slice holds. -/
structure NRep (α β : Type) where
  sz : Nat
  enc : α → Value → List Value
  sub : α → List β
  put : α → List β → α
  len : ∀ x u, (enc x u).length = sz
  one : ∀ x u, u.oneCell' = true → ∀ c ∈ enc x u, c.oneCell' = true
  pos : 0 < sz
  enc_put : ∀ x s u, enc (put x s) u = enc x u
  sub_put : ∀ x s, sub (put x s) = s
def NRep.raw {α β : Type} (N : NRep α β) : Rep (α × Value) where
  sz := N.sz
  rd _ _ cs p := cs = N.enc p.1 p.2 ∧ p.2.oneCell' = true
  len := by rintro w A cs x ⟨rfl, _⟩; exact N.len _ _
  one := by rintro w A cs x ⟨rfl, h⟩; exact N.one _ _ h
  pos := N.pos
  go := fun h _ _ _ => h
def hn : Nat → Prop := fun _ => False
def hat (k : Nat) : Nat → Prop := fun i => i = k
def famO (ho : Nat → Prop) (us : List Value) : BS := fun b => ∃ i u, us[i]? = some u ∧ ¬ ho i ∧ ob u b
def FamP {β : Type} (R : Rep β) (E : TypeId) (ho : Nat → Prop) (us : List Value) (ss : List (List β)) (w : World) (A : BS) : Prop :=
  us.length = ss.length ∧
  (∀ i u s, us[i]? = some u → ss[i]? = some s → ¬ ho i → OwnSl R E w (fun b => A b ∨ famO ho us b) u s) ∧
  (∀ i j u v, i ≠ j → ¬ ho i → ¬ ho j → us[i]? = some u → us[j]? = some v → ∀ b, ob u b → ¬ ob v b)
theorem FamP.at {β : Type} {R : Rep β} {E : TypeId} {ho : Nat → Prop} {us : List Value} {ss : List (List β)} {w : World} {A : BS} (h : FamP R E ho us ss w A) {i : Nat} {u : Value} (hu : us[i]? = some u) : ∃ s, ss[i]? = some s := by
  have : i < us.length := by
    rcases Nat.lt_or_ge i us.length with h | h
    · exact h
    · rw [List.getElem?_eq_none h] at hu; cases hu
  exact ⟨ss[i]'(h.1 ▸ this), List.getElem?_eq_getElem _⟩
def famS {β : Type} (R : Rep β) (E : TypeId) (ho : Nat → Prop) (us : List Value) (ss : List (List β)) : Pce where
  own := famO ho us
  P w A := FamP R E ho us ss w A
  lt := by
    rintro w A b h ⟨i, u, h1, h2, h3⟩
    obtain ⟨s, hs⟩ := h.at h1
    exact (h.2.1 i u s h1 hs h2).lt b h3
  go := by
    rintro w w' A A' K ⟨h1, h2, h3⟩ hk hK hKo hA
    refine ⟨h1, fun i u s hu hs hi => (h2 i u s hu hs hi).go hk (fun b hb hl => .inl (hK b hb hl)) (fun b hb ho => hKo b hb ⟨i, u, hu, hi, ho⟩) (fun b hb hl => ?_), h3⟩
    rcases hb with hb | hb
    · exact .inl (hA b hb hl)
    · exact .inl (.inr hb)
section
variable {α β : Type} {N : NRep α β} {R : Rep β} {E Es T : TypeId} {w0 w w' : World} {M K A : BS} {hp : Nat → Chunk} {v u u' : Value} {us us' : List Value} {L L' : List α} {ss ss' : List (List β)} {s : List β} {x y : α} {k : Nat} {ho ho' : Nat → Prop}
theorem hupd_hupd (hp : Nat → Chunk) (i : Nat) (a c : Chunk) : hupd (hupd hp i a) i c = hupd hp i c := by
  funext j
  by_cases e : j = i
  · subst e; rw [hupd_same, hupd_same]
  · rw [hupd_ne e, hupd_ne e, hupd_ne e]
theorem hupd_comm (hp : Nat → Chunk) {i j : Nat} (a c : Chunk) (h : i ≠ j) : hupd (hupd hp i a) j c = hupd (hupd hp j c) i a := by
  funext x
  by_cases e : x = i
  · subst e; rw [hupd_same, hupd_ne h, hupd_same]
  · by_cases e2 : x = j
    · subst e2; rw [hupd_same, hupd_ne e, hupd_same]
    · rw [hupd_ne e2, hupd_ne e, hupd_ne e, hupd_ne e2]
theorem SH.famAt (h : SH w0 M K w hp) (j : Nat) (hj : hp j = .pce (famS R E ho us ss)) : FamP R E ho us ss w (SH.A M hp) := h.pceAt j hj
theorem SH.dnLen (h : SH w0 M K w hp) (j : Nat) (hj : hp j = .pce (famS R E ho us (L.map N.sub))) : us.length = L.length := by
  have := (h.famAt j hj).1
  rw [List.length_map] at this
  exact this
theorem zip_len (h : us.length = L.length) : (L.zip us).length = L.length := by rw [List.length_zip]; omega
theorem zip_at (hk : L[k]? = some x) (hu : us[k]? = some u) : (L.zip us)[k]? = some (x, u) := by
  rw [List.getElem?_zip_eq_some]; exact ⟨hk, hu⟩
theorem zip_setL (hu : us[k]? = some u) : (L.zip us).set k (y, u) = (L.set k y).zip us := by
  apply List.ext_getElem?
  intro i
  rw [List.getElem?_set]
  by_cases e : k = i
  · subst e
    rw [if_pos rfl]
    by_cases hl : k < L.length
    · rw [zip_at (x := y) (u := u) (by rw [List.getElem?_set_self hl]) hu]
      have : k < us.length := by
        rcases Nat.lt_or_ge k us.length with h | h
        · exact h
        · rw [List.getElem?_eq_none h] at hu; cases hu
      rw [if_pos (by rw [List.length_zip]; omega)]
    · rw [if_neg (by rw [List.length_zip]; omega), List.getElem?_eq_none (by rw [List.length_zip, List.length_set]; omega)]
  · rw [if_neg e]
    simp only [List.zip_eq_zipWith, List.getElem?_zipWith, List.getElem?_set_ne e]
theorem zip_setR (hk : L[k]? = some x) : (L.zip us).set k (x, u) = L.zip (us.set k u) := by
  apply List.ext_getElem?
  intro i
  rw [List.getElem?_set]
  by_cases e : k = i
  · subst e
    rw [if_pos rfl]
    by_cases hl : k < us.length
    · rw [zip_at (x := x) (u := u) hk (by rw [List.getElem?_set_self hl])]
      have : k < L.length := by
        rcases Nat.lt_or_ge k L.length with h | h
        · exact h
        · rw [List.getElem?_eq_none h] at hk; cases hk
      rw [if_pos (by rw [List.length_zip]; omega)]
    · rw [if_neg (by rw [List.length_zip]; omega), List.getElem?_eq_none (by rw [List.length_zip, List.length_set]; omega)]
  · rw [if_neg e]
    simp only [List.zip_eq_zipWith, List.getElem?_zipWith, List.getElem?_set_ne e]
theorem set_self_at (hk : L[k]? = some y) : L.set k y = L := by
  apply List.ext_getElem?
  intro i
  rw [List.getElem?_set]
  by_cases e : k = i
  · subst e
    by_cases hl : k < L.length
    · rw [if_pos rfl, if_pos hl, hk]
    · rw [List.getElem?_eq_none (by omega)] at hk; cases hk
  · rw [if_neg e]
theorem set_at {z : α} (hk : L[k]? = some x) : (L.set k z)[k]? = some z := by
  rw [List.getElem?_set_self]
  rcases Nat.lt_or_ge k L.length with h | h
  · exact h
  · rw [List.getElem?_eq_none h] at hk; cases hk
theorem us_set_at (hu : us[k]? = some u) : (us.set k u')[k]? = some u' := set_at hu
/-- The raw elements tell nothing of what the slices hold. -/
theorem own_re {l l' : List (α × Value)} (h : OwnSl N.raw E w A v l) (hl : l'.length = l.length) (he : ∀ (i : Nat) (p p' : α × Value), l[i]? = some p → l'[i]? = some p' → N.enc p'.1 p'.2 = N.enc p.1 p.2 ∧ p'.2 = p.2) : OwnSl N.raw E w A v l' := by
  obtain ⟨xs, h1, h2⟩ := h
  refine ⟨xs, by rw [hl]; exact h1, fun i hi => ?_⟩
  obtain ⟨e1, e2⟩ := h2 i (hl ▸ hi)
  obtain ⟨q1, q2⟩ := he i _ _ (List.getElem?_eq_getElem (hl ▸ hi)) (List.getElem?_eq_getElem hi)
  exact ⟨e1.trans q1.symm, by rw [q2]; exact e2⟩
theorem SH.rawRe (h : SH w0 M K w hp) (i : Nat) (hi : hp i = .own N.raw E v (L.zip us)) (hk : L[k]? = some x) (hy : ∀ u, N.enc y u = N.enc x u) : SH w0 M K w (hupd hp i (.own N.raw E v ((L.set k y).zip us))) := by
  refine h.step i (Keep.refl BE w) (fun _ h => h.elim) (fun b hb _ => by rw [hi]; exact hb) ?_
  have ho := h.ok i
  rw [hi] at ho
  refine Chunk.sub (O := allOwn hp) (c := .own N.raw E v ((L.set k y).zip us)) ?_ (fun b hb _ => ?_)
  · refine own_re ho (by rw [List.length_zip, List.length_zip, List.length_set]) (fun i p p' hp hp' => ?_)
    rw [List.getElem?_zip_eq_some] at hp hp'
    rw [List.getElem?_set] at hp'
    have e2 := Option.some.inj (hp.2.symm.trans hp'.2)
    by_cases e : k = i
    · subst e
      have hl : k < L.length := by
        rcases Nat.lt_or_ge k L.length with h | h
        · exact h
        · rw [List.getElem?_eq_none h] at hk; cases hk
      rw [if_pos rfl, if_pos hl] at hp'
      have e3 := Option.some.inj hp'.1
      have e4 := Option.some.inj (hk.symm.trans hp.1)
      rw [← e2, ← e3, ← e4]
      exact ⟨hy _, rfl⟩
    · rw [if_neg e] at hp'
      have e3 := Option.some.inj (hp.1.symm.trans hp'.1)
      rw [← e2, ← e3]
      exact ⟨rfl, rfl⟩
  · rcases hb with hb | hb
    · exact rest_all hb
    · exact ⟨i, by rw [hi]; exact hb⟩
/-- The family told anew, but for its holes. -/
theorem SH.famRe (h : SH w0 M K w hp) (j : Nat) (hj : hp j = .pce (famS R E ho us ss)) (hl : us'.length = ss'.length) (he : ∀ i, ¬ ho i → us'[i]? = us[i]? ∧ ss'[i]? = ss[i]?) : SH w0 M K w (hupd hp j (.pce (famS R E ho us' ss'))) := by
  have hf := h.famAt j hj
  have hown : ∀ b, famO ho us' b → famO ho us b := fun b ⟨i, u, h1, h2, h3⟩ => ⟨i, u, (he i h2).1 ▸ h1, h2, h3⟩
  refine h.pceStep j hj ?_ (Keep.refl _ _) (fun b hb _ => hown b hb)
  refine ⟨hl, fun i u s hu hs hi => ?_, fun i j u v hij hi hj' hu hv => hf.2.2 i j u v hij hi hj' ((he i hi).1 ▸ hu) ((he j hj').1 ▸ hv)⟩
  refine (hf.2.1 i u s ((he i hi).1 ▸ hu) ((he i hi).2 ▸ hs) hi).go (Keep.refl BE w) (fun _ h => h.elim) (fun _ h => h.elim) (fun b hb _ => .inl (hb.imp id (hown b)))
theorem famHoleS (h : ∀ i, ¬ hat k i → ss'[i]? = ss[i]?) : ∀ i, ¬ hat k i → us[i]? = us[i]? ∧ ss'[i]? = ss[i]? := fun i hi => ⟨rfl, h i hi⟩
/-- The element at the hole is another one. -/
theorem SH.famL (h : SH w0 M K w hp) (j : Nat) (y : α) (hj : hp j = .pce (famS R E (hat k) us (L.map N.sub))) : SH w0 M K w (hupd hp j (.pce (famS R E (hat k) us ((L.set k y).map N.sub)))) := by
  refine h.famRe j hj ?_ (fun i hi => ⟨rfl, ?_⟩)
  · rw [List.length_map, List.length_set]; exact h.dnLen j hj
  · rw [List.map_set, List.getElem?_set_ne (fun e => hi e.symm)]
theorem SH.famU (h : SH w0 M K w hp) (j : Nat) (u : Value) (hj : hp j = .pce (famS R E (hat k) us ss)) : SH w0 M K w (hupd hp j (.pce (famS R E (hat k) (us.set k u) ss))) := by
  refine h.famRe j hj ?_ (fun i hi => ⟨?_, rfl⟩)
  · rw [List.length_set]; exact (h.famAt j hj).1
  · rw [List.getElem?_set_ne (fun e => hi e.symm)]
/-- One of the family is taken out. -/
theorem SH.famOpen (h : SH w0 M K w hp) (j m : Nat) (hj : hp j = .pce (famS R E ho us ss)) (hm : hp m = .no) (hjm : j ≠ m) (hu : us[k]? = some u) (hs : ss[k]? = some s) (hk : ¬ ho k) (ho' : Nat → Prop) (h' : ∀ i, ho' i ↔ ho i ∨ i = k) :
    SH w0 M K w (hupd (hupd hp j (.pce (famS R E ho' us ss))) m (.own R E u s)) := by
  have hf := h.famAt j hj
  have hown : ∀ b, famO ho' us b → famO ho us b := fun b ⟨i, u, h1, h2, h3⟩ => ⟨i, u, h1, fun h => h2 ((h' i).2 (.inl h)), h3⟩
  have key : (Chunk.two (.pce (famS R E ho' us ss)) (.own R E u s)).holds w M (SH.av hp j (Chunk.two (.pce (famS R E ho' us ss)) (.own R E u s))) := by
    refine ⟨⟨hf.1, fun i v t hv ht hi => ?_, fun i j u v hij hi hj' hu hv => hf.2.2 i j u v hij (fun h => hi ((h' i).2 (.inl h))) (fun h => hj' ((h' j).2 (.inl h))) hu hv⟩, ?_, ?_⟩
    · refine (hf.2.1 i v t hv ht (fun h => hi ((h' i).2 (.inl h)))).go (Keep.refl BE w) (fun _ h => h.elim) (fun _ h => h.elim) (fun b hb _ => .inl ?_)
      rcases hb with (hb | hb | hb) | hb
      · exact .inl (.inl hb)
      · exact .inl (.inr (rest_all hb))
      · rcases hb with hb | hb
        · exact .inr (hown b hb)
        · exact .inr ⟨k, u, hu, hk, hb⟩
      · exact .inr (hown b hb)
    · refine (hf.2.1 k u s hu hs hk).go (Keep.refl BE w) (fun _ h => h.elim) (fun _ h => h.elim) (fun b hb _ => .inl ?_)
      rcases hb with hb | hb | hb
      · exact .inl (.inl hb)
      · exact .inl (.inr (rest_all hb))
      · rcases hb with hb | hb
        · exact .inr (hown b hb)
        · exact .inr ⟨k, u, hu, hk, hb⟩
    · rintro b ⟨i, v, h1, h2, h3⟩ hb
      exact hf.2.2 i k v u (fun e => h2 ((h' i).2 (.inr e))) (fun h => h2 ((h' i).2 (.inl h))) hk h1 hu b h3 hb
  have h1 := h.step j (Keep.refl BE w) (fun _ h => h.elim) (fun b hb _ => by
    rw [hj]
    rcases hb with hb | hb
    · exact hown b hb
    · exact ⟨k, u, hu, hk, hb⟩) key
  have h2 := h1.unpair j m hjm (hupd_same _ _ _) (by rw [hupd_ne (Ne.symm hjm)]; exact hm)
  rw [hupd_hupd] at h2
  exact h2
/-- And put back. -/
theorem SH.famClose (h : SH w0 M K w hp) (j m : Nat) (hj : hp j = .pce (famS R E ho us ss)) (hm : hp m = .own R E u s) (hjm : j ≠ m) (hu : us[k]? = some u) (hk : ho k) (ho' : Nat → Prop) (h' : ∀ i, ho i ↔ ho' i ∨ i = k) (h'' : ¬ ho' k) :
    SH w0 M K w (hupd (hupd hp m .no) j (.pce (famS R E ho' us (ss.set k s)))) := by
  have h1 := h.pair j m hjm
  have hsame : ∀ i, ¬ ho' i → i = k ∨ ¬ ho i := fun i hi => by
    by_cases e : i = k
    · exact .inl e
    · exact .inr (fun h => ((h' i).1 h).elim hi e)
  have hown : ∀ b, famO ho' us b → famO ho us b ∨ ob u b := fun b ⟨i, v, h1, h2, h3⟩ => by
    rcases hsame i h2 with rfl | h4
    · rw [hu] at h1; cases h1; exact .inr h3
    · exact .inl ⟨i, v, h1, h4, h3⟩
  have hown2 : ∀ b, famO ho us b ∨ ob u b → famO ho' us b := fun b hb => by
    rcases hb with ⟨i, v, h1, h2, h3⟩ | hb
    · exact ⟨i, v, h1, fun h => h2 ((h' i).2 (.inl h)), h3⟩
    · exact ⟨k, u, hu, h'', hb⟩
  have ok := h1.ok j
  have hj2 : hupd (hupd hp m .no) j (.two (hp j) (hp m)) = hupd (hupd hp m .no) j (.two (.pce (famS R E ho us ss)) (.own R E u s)) := by rw [hj, hm]
  rw [hupd_same, hj, hm] at ok
  have h2 := h1.step (c := .pce (famS R E ho' us (ss.set k s))) j (Keep.refl BE w) (fun _ h => h.elim) (fun b hb _ => by
    rw [hupd_same, hj, hm]
    exact hown b hb) ?_
  · rw [hupd_hupd] at h2
    exact h2
  · rw [hj2]
    have hA : ∀ b, (M b ∨ SH.av (hupd (hupd hp m .no) j (.two (.pce (famS R E ho us ss)) (.own R E u s))) j (.pce (famS R E ho' us (ss.set k s))) b) ∨ famO ho' us b → (M b ∨ allOwn (hupd (hupd hp m .no) j (.two (.pce (famS R E ho us ss)) (.own R E u s))) b) := by
      have hj' : ∀ b, famO ho' us b → allOwn (hupd (hupd hp m .no) j (.two (.pce (famS R E ho us ss)) (.own R E u s))) b := fun b hb => ⟨j, by rw [hupd_same]; exact hown b hb⟩
      rintro b ((hb | hb | hb) | hb)
      · exact .inl hb
      · exact .inr (rest_all hb)
      · exact .inr (hj' b hb)
      · exact .inr (hj' b hb)
    refine ⟨by rw [List.length_set]; exact ok.1.1, fun i v t hv ht hi => ?_, fun i i' v v' hii hi hi' hv hv' b hb hb' => ?_⟩
    · by_cases e : i = k
      · subst e
        rw [hu] at hv
        cases hv
        have hlt : i < ss.length := by
          obtain ⟨s', hs'⟩ := ok.1.at hu
          rcases Nat.lt_or_ge i ss.length with h | h
          · exact h
          · rw [List.getElem?_eq_none h] at hs'; cases hs'
        rw [List.getElem?_set_self hlt] at ht
        cases ht
        refine OwnSl.go ok.2.1 (Keep.refl BE w) (fun _ h => h.elim) (fun _ h => h.elim) (fun b hb _ => .inl (hA b hb))
      · rw [List.getElem?_set_ne (fun h => e h.symm)] at ht
        have hi2 : ¬ ho i := (hsame i hi).resolve_left e
        refine (ok.1.2.1 i v t hv ht hi2).go (Keep.refl BE w) (fun _ h => h.elim) (fun _ h => h.elim) (fun b hb _ => .inl (.inl (hA b hb)))
    · by_cases e : i = k
      · have e' : i' ≠ k := fun h => hii (e.trans h.symm)
        have hi2 : ¬ ho i' := (hsame i' hi').resolve_left e'
        subst e
        rw [hu] at hv
        cases hv
        exact ok.2.2 b ⟨i', v', hv', hi2, hb'⟩ hb
      · have hi2 : ¬ ho i := (hsame i hi).resolve_left e
        by_cases e' : i' = k
        · subst e'
          rw [hu] at hv'
          cases hv'
          exact ok.2.2 b ⟨i, v, hv, hi2, hb⟩ hb'
        · have hi2' : ¬ ho i' := (hsame i' hi').resolve_left e'
          exact ok.1.2.2 i i' v v' hii hi2 hi2' hv hv' b hb hb'
end
end Go.LX

namespace Go.LX
open Go.RowKit Go.Proofs
section
variable {α β : Type} {N : NRep α β} {R : Rep β} {E Es T : TypeId} {w0 w w' : World} {M K A : BS} {hp : Nat → Chunk} {v u u' : Value} {us us' us2 : List Value} {L L' : List α} {ss ss' ss2 : List (List β)} {s : List β} {x y : α} {k : Nat} {ho ho' : Nat → Prop}
theorem get_lt {γ : Type} {l : List γ} {z : γ} (h : l[k]? = some z) : k < l.length := by
  rcases Nat.lt_or_ge k l.length with h1 | h1
  · exact h1
  · rw [List.getElem?_eq_none h1] at h; cases h
/-- The slice of the element k, as a piece. -/
theorem SH.dnOpen (h : SH w0 M K w hp) (j m : Nat) (hj : hp j = .pce (famS R Es hn us (L.map N.sub))) (hm : hp m = .no) (hjm : j ≠ m) (hk : L[k]? = some x) :
    ∃ u, us[k]? = some u ∧ SH w0 M K w (hupd (hupd hp j (.pce (famS R Es (hat k) us (L.map N.sub)))) m (.own R Es u (N.sub x))) := by
  have hl := h.dnLen j hj
  have hkl := get_lt hk
  exact ⟨us[k]'(hl ▸ hkl), List.getElem?_eq_getElem _, h.famOpen j m hj hm hjm (List.getElem?_eq_getElem _) (by rw [List.getElem?_map, hk]; rfl) (fun h => h) _ (fun i => ⟨.inr, fun h => h.elim (fun h => h.elim) id⟩)⟩
theorem SH.dnClose (h : SH w0 M K w hp) (i j m : Nat) (y : α) (hi : hp i = .own N.raw E v (L.zip us)) (hj : hp j = .pce (famS R Es (hat k) us (L.map N.sub))) (hm : hp m = .own R Es u s) (hij : i ≠ j) (him : i ≠ m) (hjm : j ≠ m) (hk : L[k]? = some x) (hu : us[k]? = some u) (hy : y = N.put x s) :
    SH w0 M K w (hupd (hupd (hupd hp m .no) j (.pce (famS R Es hn us ((L.set k y).map N.sub)))) i (.own N.raw E v ((L.set k y).zip us))) := by
  have h1 := h.famClose j m hj hm hjm hu rfl hn (fun i => ⟨.inr, fun h => h.elim (fun h => h.elim) id⟩) (fun h => h)
  have h2 := h1.rawRe (N := N) (x := x) (y := y) (k := k) (E := E) (v := v) i (by rw [hupd_ne hij, hupd_ne him]; exact hi) hk (fun u => by rw [hy]; exact N.enc_put _ _ _)
  have e : (L.map N.sub).set k s = (L.set k y).map N.sub := by rw [List.map_set, hy, N.sub_put]
  rw [e] at h2
  exact h2
theorem SH.dnClose0 (h : SH w0 M K w hp) (j m : Nat) (hj : hp j = .pce (famS R Es (hat k) us (L.map N.sub))) (hm : hp m = .own R Es u s) (hjm : j ≠ m) (hk : L[k]? = some x) (hu : us[k]? = some u) (hs : N.sub x = s) :
    SH w0 M K w (hupd (hupd hp m .no) j (.pce (famS R Es hn us (L.map N.sub)))) := by
  have h1 := h.famClose j m hj hm hjm hu rfl hn (fun i => ⟨.inr, fun h => h.elim (fun h => h.elim) id⟩) (fun h => h)
  have e : (L.map N.sub).set k s = L.map N.sub := set_self_at (by rw [List.getElem?_map, hk, ← hs]; rfl)
  rw [e] at h1
  exact h1
theorem SH.famNew (h : SH w0 M K w hp) (m : Nat) (hm : hp m = .own R Es u s) : SH w0 M K w (hupd hp m (.pce (famS R Es hn [u] [s]))) := by
  have ho := h.ok m
  rw [hm] at ho
  have hown : ∀ b, famO hn [u] b → ob u b := by
    rintro b ⟨i, v, h1, _, h3⟩
    cases i with
    | zero => cases h1; exact h3
    | succ i => cases h1
  refine h.step m (Keep.refl BE w) (fun _ h => h.elim) (fun b hb _ => by rw [hm]; exact hown b hb) ⟨rfl, fun i v t hv ht _ => ?_, fun i j v t hij _ _ hv ht => ?_⟩
  · cases i with
    | succ i => cases hv
    | zero =>
      cases hv; cases ht
      refine OwnSl.go ho (Keep.refl BE w) (fun _ h => h.elim) (fun _ h => h.elim) (fun b hb _ => ?_)
      rcases hb with (hb | hb | hb) | hb
      · exact .inl (.inl hb)
      · exact .inl (.inr (rest_all hb))
      · exact .inr (hown b hb)
      · exact .inr (hown b hb)
  · cases i with
    | zero => cases j with
      | zero => exact absurd rfl hij
      | succ j => cases ht
    | succ i => cases hv
theorem SH.famNil (h : SH w0 M K w hp) (j : Nat) : SH w0 M K w (hupd hp j (.pce (famS R Es hn [] []))) :=
  h.learn j (Keep.refl BE w) (by rintro b ⟨i, u, h1, _⟩; cases h1) (by
    refine ⟨rfl, ?_, ?_⟩
    · intro i v t hv; cases hv
    · intro i j v t _ _ _ hv; cases hv)
theorem SH.famJoin (h : SH w0 M K w hp) (j m : Nat) (hj : hp j = .pce (famS R Es hn us ss)) (hm : hp m = .pce (famS R Es hn us2 ss2)) (hjm : j ≠ m) : SH w0 M K w (hupd (hupd hp m .no) j (.pce (famS R Es hn (us ++ us2) (ss ++ ss2)))) := by
  have h1 := h.pair j m hjm
  have ok := h1.ok j
  rw [hj, hm] at h1
  rw [hupd_same, hj, hm] at ok
  have hown : ∀ b, famO hn (us ++ us2) b → famO hn us b ∨ famO hn us2 b := by
    rintro b ⟨i, v, h1, _, h3⟩
    rw [List.getElem?_append] at h1
    split at h1
    · exact .inl ⟨i, v, h1, fun h => h, h3⟩
    · exact .inr ⟨_, v, h1, fun h => h, h3⟩
  have hown2 : ∀ b, famO hn us b ∨ famO hn us2 b → famO hn (us ++ us2) b := by
    rintro b (⟨i, v, h1, _, h3⟩ | ⟨i, v, h1, _, h3⟩)
    · exact ⟨i, v, by rw [List.getElem?_append_left (get_lt h1)]; exact h1, fun h => h, h3⟩
    · exact ⟨us.length + i, v, by rw [List.getElem?_append_right (by omega), Nat.add_sub_cancel_left]; exact h1, fun h => h, h3⟩
  have h2 := h1.step (c := .pce (famS R Es hn (us ++ us2) (ss ++ ss2))) j (Keep.refl BE w) (fun _ h => h.elim) (fun b hb _ => by rw [hupd_same]; exact hown b hb) ?_
  · rw [hupd_hupd] at h2
    exact h2
  · have hA : ∀ b, (M b ∨ SH.av (hupd (hupd hp m .no) j (.two (.pce (famS R Es hn us ss)) (.pce (famS R Es hn us2 ss2)))) j (.pce (famS R Es hn (us ++ us2) (ss ++ ss2))) b) ∨ famO hn (us ++ us2) b → (M b ∨ allOwn (hupd (hupd hp m .no) j (.two (.pce (famS R Es hn us ss)) (.pce (famS R Es hn us2 ss2)))) b) := by
      have hj' : ∀ b, famO hn (us ++ us2) b → allOwn (hupd (hupd hp m .no) j (.two (.pce (famS R Es hn us ss)) (.pce (famS R Es hn us2 ss2)))) b := fun b hb => ⟨j, by rw [hupd_same]; exact hown b hb⟩
      rintro b ((hb | hb | hb) | hb)
      · exact .inl hb
      · exact .inr (rest_all hb)
      · exact .inr (hj' b hb)
      · exact .inr (hj' b hb)
    have e1 := ok.1.1
    have e2 := ok.2.1.1
    refine ⟨by simp only [List.length_append]; omega, fun i v t hv ht _ => ?_, fun i i' v v' hii _ _ hv hv' b hb hb' => ?_⟩
    · rw [List.getElem?_append] at hv ht
      by_cases hl : i < us.length
      · rw [if_pos hl] at hv
        rw [if_pos (by omega)] at ht
        exact (ok.1.2.1 i v t hv ht (fun h => h)).go (Keep.refl BE w) (fun _ h => h.elim) (fun _ h => h.elim) (fun b hb _ => .inl (.inl (hA b hb)))
      · rw [if_neg hl] at hv
        rw [if_neg (by omega), ← e1] at ht
        exact (ok.2.1.2.1 _ v t hv ht (fun h => h)).go (Keep.refl BE w) (fun _ h => h.elim) (fun _ h => h.elim) (fun b hb _ => .inl (.inl (hA b hb)))
    · rw [List.getElem?_append] at hv hv'
      by_cases hl : i < us.length
      · rw [if_pos hl] at hv
        by_cases hl' : i' < us.length
        · rw [if_pos hl'] at hv'
          exact ok.1.2.2 i i' v v' hii (fun h => h) (fun h => h) hv hv' b hb hb'
        · rw [if_neg hl'] at hv'
          exact ok.2.2 b ⟨_, v, hv, fun h => h, hb⟩ ⟨_, v', hv', fun h => h, hb'⟩
      · rw [if_neg hl] at hv
        by_cases hl' : i' < us.length
        · rw [if_pos hl'] at hv'
          exact ok.2.2 b ⟨_, v', hv', fun h => h, hb'⟩ ⟨_, v, hv, fun h => h, hb⟩
        · rw [if_neg hl'] at hv'
          exact ok.2.1.2.2 _ _ v v' (by omega) (fun h => h) (fun h => h) hv hv' b hb hb'
theorem SH.famTake (h : SH w0 M K w hp) (j n : Nat) (hj : hp j = .pce (famS R Es hn us (L.map N.sub))) : SH w0 M K w (hupd hp j (.pce (famS R Es hn (us.take n) ((L.take n).map N.sub)))) := by
  have hf := h.famAt j hj
  have hat : ∀ (i : Nat) (u : Value), (us.take n)[i]? = some u → us[i]? = some u ∧ i < n := fun i u hu => by
    rw [List.getElem?_take] at hu
    split at hu
    · exact ⟨hu, by assumption⟩
    · cases hu
  have hown : ∀ b, famO hn (us.take n) b → famO hn us b := fun b ⟨i, u, h1, h2, h3⟩ => ⟨i, u, (hat i u h1).1, h2, h3⟩
  refine h.pceStep j hj ?_ (Keep.refl _ _) (fun b hb _ => hown b hb)
  have hl := hf.1
  rw [List.length_map] at hl
  refine ⟨by rw [List.length_take, List.length_map, List.length_take]; omega, fun i u s hu hs hi => ?_, fun i j u v hij hi hj' hu hv => hf.2.2 i j u v hij hi hj' (hat i u hu).1 (hat j v hv).1⟩
  rw [List.map_take, List.getElem?_take, if_pos (hat i u hu).2] at hs
  refine (hf.2.1 i u s (hat i u hu).1 hs hi).go (Keep.refl BE w) (fun _ h => h.elim) (fun _ h => h.elim) (fun b hb _ => .inl (hb.imp id (hown b)))
theorem zip_take' (n : Nat) : (L.zip us).take n = (L.take n).zip (us.take n) := by
  apply List.ext_getElem?
  intro i
  simp only [List.zip_eq_zipWith, List.getElem?_take, List.getElem?_zipWith]
  split <;> rfl
theorem zip_app {L2 : List α} (h : us.length = L.length) : (L.zip us) ++ (L2.zip us2) = (L ++ L2).zip (us ++ us2) := (List.zip_append h.symm).symm
theorem r_lenZ {P : Program} {ρ : Operand → Value} {d : Option Nat} {ty : TypeId} {pos : String} {af : Array Edge} {g : Option (Nat × Bool)} {xo : Operand} {sz : Nat} {B A : BS} {w1 : World} (hT : SliceOf P T E sz) (hx : ρ xo = v) (hv : Rd2 N.raw w1 B A v (L.zip us)) (hl : us.length = L.length) :
    (execOp ρ ⟨d, .call { callee := .builtin .len, args := #[xo], argTypes := #[T] }, ty, pos, af, g⟩).run P w = .ok (.value (.int .i64 L.length)) w := by
  have h := r_len (P := P) (w := w) (d := d) (ty := ty) (pos := pos) (af := af) (g := g) hT hx hv
  rw [zip_len hl] at h
  exact h
/-- Written on no more. -/
theorem SH.dnFreeze {R' : Rep α} (h : SH w0 M K w hp) (i j : Nat) (hi : hp i = .own N.raw E v (L.zip us)) (hj : hp j = .pce (famS R Es hn us (L.map N.sub))) (hij : i ≠ j) (hsz : R'.sz = N.sz) (br : ∀ w A x u, RdSl R w A u (N.sub x) → R'.rd w A (N.enc x u) x) : SH w0 M K w (hupd (hupd hp j .no) i (.rd R' v L)) := by
  have hl := h.dnLen j hj
  have h1 := h.pair i j hij
  have hap := h1.apart i
  have hM := h1.apM i
  have ok := h1.ok i
  rw [hupd_same] at hap hM
  rw [hupd_same, hi, hj] at ok
  have h2 := h1.step (c := .rd R' v L) i (Keep.refl BE w) (fun _ h => h.elim) (fun b hb _ => hb.elim) ?_
  · rw [hupd_hupd] at h2
    exact h2
  · have hno : ∀ b, (hp i).own' b ∨ (hp j).own' b → ¬ (M b ∨ SH.av (hupd (hupd hp j .no) i (.two (hp i) (hp j))) i (.rd R' v L) b) := by
      intro b hb hm
      rcases hm with hm | ⟨q, hq, hm⟩ | hm
      · exact hM b hb hm
      · exact hap q (fun e => hq e.symm) b hb hm
      · exact hm
    have hA : ∀ b, (M b ∨ SH.av (hupd (hupd hp j .no) i (.two (hp i) (hp j))) i (.rd R' v L) b) → M b ∨ allOwn (hupd (hupd hp j .no) i (.two (.own N.raw E v (L.zip us)) (.pce (famS R Es hn us (L.map N.sub))))) b := by
      rw [hi, hj]
      rintro b (hb | hb | hb)
      · exact .inl hb
      · exact .inr (rest_all hb)
      · exact hb.elim
    have hr : RdSl N.raw w (fun b => M b ∨ SH.av (hupd (hupd hp j .no) i (.two (hp i) (hp j))) i (.rd R' v L) b) v (L.zip us) :=
      OwnSl.rd ok.1 (fun b hb => hno b (.inl (by rw [hi]; exact hb))) (fun b hb _ => .inl (hA b hb))
    obtain ⟨a, cap, e1, e2, e3, e4, e5⟩ := hr
    rw [zip_len hl] at e1 e2
    refine ⟨a, cap, e1, e2, e3, e4, fun q hq => ?_⟩
    obtain ⟨b, o, cells, F, fz, q1, q2, q3, q4⟩ := e5 q (by rw [zip_len hl]; exact hq)
    refine ⟨b, o, cells, F, fz, q1, q2, q3, ?_⟩
    rw [hsz]
    have e6 : (L.zip us)[q]'(by rw [zip_len hl]; exact hq) = (L[q], us[q]'(by omega)) := by simp
    rw [e6] at q4
    obtain ⟨q5, _⟩ := q4
    have q6 : ((cells.toList.drop (o + q * N.sz)).take N.sz) = N.enc L[q] (us[q]'(by omega)) := q5
    rw [q6]
    refine br _ _ _ _ (OwnSl.rd (ok.2.1.2.1 q _ _ (List.getElem?_eq_getElem (by omega)) (by rw [List.getElem?_map, List.getElem?_eq_getElem hq]; rfl) (fun h => h)) (fun b hb => hno b (.inr (by rw [hj]; exact ⟨q, _, List.getElem?_eq_getElem (by omega), fun h => h, hb⟩))) (fun b hb _ => .inl (.inl (hA b hb))))
theorem SH.moveC (h : SH w0 M K w hp) (j i : Nat) {c : Chunk} (hj : hp j = c) (hi : hp i = .no) (hij : j ≠ i) : SH w0 M K w (hupd (hupd hp j .no) i c) := by
  subst hj
  have key : ∀ x b, (hupd (hupd hp j .no) i (hp j) x).own' b → ∃ y, (hp y).own' b ∧ (x = i → y = j) ∧ (x ≠ i → y = x ∧ x ≠ j) := by
    intro x b hb
    by_cases e : x = i
    · subst e; rw [hupd_same] at hb; exact ⟨j, hb, fun _ => rfl, fun h => absurd rfl h⟩
    · rw [hupd_ne e] at hb
      by_cases e2 : x = j
      · subst e2; rw [hupd_same] at hb; exact hb.elim
      · rw [hupd_ne e2] at hb; exact ⟨x, hb, fun h => absurd h e, fun _ => ⟨rfl, e2⟩⟩
  have hall : ∀ b, allOwn (hupd (hupd hp j .no) i (hp j)) b → allOwn hp b := fun b ⟨x, hx⟩ => let ⟨y, hy, _⟩ := key x b hx; ⟨y, hy⟩
  refine ⟨h.keep, h.ltM, fun x b hb => let ⟨y, hy, _⟩ := key x b hb; h.apM y b hy, fun x => ?_, fun x y hxy b hx hy => ?_, fun x b hb => let ⟨y, hy, _⟩ := key x b hb; h.old y b hy⟩
  · by_cases e : x = i
    · subst e; rw [hupd_same]
      exact Chunk.sub (h.ok j) (fun b hb _ => hall b hb)
    · rw [hupd_ne e]
      by_cases e2 : x = j
      · subst e2; rw [hupd_same]; trivial
      · rw [hupd_ne e2]; exact Chunk.sub (h.ok x) (fun b hb _ => hall b hb)
  · obtain ⟨x', h1, h2, h3⟩ := key x b hx
    obtain ⟨y', k1, k2, k3⟩ := key y b hy
    have : x' ≠ y' := by
      by_cases e : x = i
      · have e2 : y ≠ i := fun h => hxy (e.trans h.symm)
        rw [h2 e, (k3 e2).1]; exact fun h => (k3 e2).2 h.symm
      · by_cases e2 : y = i
        · rw [k2 e2, (h3 e).1]; exact (h3 e).2
        · rw [(h3 e).1, (k3 e2).1]; exact hxy
    exact h.apart x' y' this b h1 k1
/-- A list of lists: each of its own. -/
def nLst (β : Type) : NRep (List β) β where
  sz := 1
  enc _ u := [u]
  sub x := x
  put _ s := s
  len _ _ := rfl
  one := by intro x u h c hc; simp at hc; subst hc; exact h
  pos := by decide
  enc_put _ _ _ := rfl
  sub_put _ _ := rfl
theorem nLst_br {R : Rep β} : ∀ w A (x : List β) u, RdSl R w A u ((nLst β).sub x) → (rSl R).rd w A ((nLst β).enc x u) x := fun _ _ _ u h => ⟨u, rfl, h⟩
end
end Go.LX

namespace Go.LX
open Go.RowKit Go.Proofs
section
variable {P : Program} {w : World} {ρ : Operand → Value} {d : Option Nat} {ty : TypeId} {pos : String} {af : Array Edge} {g : Option (Nat × Bool)} {T : TypeId} {x y : Operand}
theorem r_indexS {s : Str} {k : Int} {b : UInt8} (hT : P.underlying T = some .string) (hx : ρ x = strV s) (hy : ρ y = .int .i64 k) (hk0 : 0 ≤ k) (hk : s[k.toNat]? = some b) :
    (execOp ρ ⟨d, .index T x y, ty, pos, af, g⟩).run P w = .ok (.value (.int .u8 (b.toNat : Int))) w := by
  simp only [execOp, Instr.index, hx, hy, underlying, asIntOf, strV]
  have h2 : ((⟨s.toArray⟩ : ByteArray)[k.toNat]? : Option UInt8) = some b := by
    have hl : k.toNat < s.length := get_lt hk
    rw [List.getElem?_eq_getElem hl] at hk
    have h3 : k.toNat < (⟨s.toArray⟩ : ByteArray).size := by simpa [ByteArray.size] using hl
    have h4 := getElem?_pos (⟨s.toArray⟩ : ByteArray) k.toNat h3
    rw [h4]
    rw [← Option.some.inj hk]
    rfl
  simp [hT, hk0, h2]
theorem SH.famNewL {α β : Type} {N : NRep α β} {R : Rep β} {E : TypeId} {w0 : World} {M K : BS} {hp : Nat → Chunk} {u : Value} {s : List β} (h : SH w0 M K w hp) (m : Nat) (x : α) (hm : hp m = .own R E u s) (hs : N.sub x = s) : SH w0 M K w (hupd hp m (.pce (famS R E hn [u] (List.map N.sub [x])))) := by
  subst hs
  exact h.famNew m hm
theorem us_at {α : Type} {us : List Value} {L : List α} {k : Nat} {z : α} (h : us.length = L.length) (hk : L[k]? = some z) : ∃ u, us[k]? = some u := by
  have := get_lt hk
  exact ⟨us[k]'(h ▸ this), List.getElem?_eq_getElem _⟩
end
end Go.LX

namespace Go.LX
open Go.RowKit Go.Proofs
/-! A piece that a caller hands over, and gets back. -/
section
variable {α : Type} {R : Rep α} {E : TypeId} {w0 w w' : World} {M K : BS} {hp : Nat → Chunk} {C C' : Chunk} {v : Value} {l : List α}
theorem own1 : ∀ b, allOwn (hupd hno 1 C) b → C.own' b := by
  rintro b ⟨j, hj⟩
  by_cases e : j = 1
  · subst e; rw [hupd_same] at hj; exact hj
  · rw [hupd_ne e] at hj; exact hj.elim
theorem own1_rd {i : Nat} (hn : ∀ b, allOwn hp b → C.own' b) : ∀ b, allOwn (hupd hp i (.rd R v l)) b → C.own' b := by
  rintro b ⟨j, hj⟩
  by_cases e : j = i
  · subst e; rw [hupd_same] at hj; exact hj.elim
  · rw [hupd_ne e] at hj; exact hn b ⟨j, hj⟩
/-- What is read beside a piece that was handed over. -/
theorem SH.argRdC (h : SH w M K w hp) (i : Nat) (ho : RdSl R w (fun b => M b ∨ C.own' b) v l) (hn : ∀ b, allOwn hp b → C.own' b) : SH w M K w (hupd hp i (.rd R v l)) :=
  h.knowRd i (ho.sub (fun b hb _ => hb.imp id (hn b)) (fun b hb _ => hb.imp id (hn b)))
theorem SH.lendS (h : SH w0 M K w hp) (i : Nat) (hi : hp i = C) (hf : C.firm) : C.holds w (fun b => M b ∨ rest hp i b) C.own' ∧ (∀ b, C.own' b → ¬ (M b ∨ rest hp i b)) ∧ (∀ b, (M b ∨ rest hp i b) → b < w.heap.size) := by
  subst hi; exact h.lendC i hf
theorem SH.rdC (h : SH w0 M K w hp) (i j : Nat) (hj : hp j = .rd R v l) (hi : hp i = C) : RdSl R w (fun b => (M b ∨ rest hp i b) ∨ C.own' b) v l := by
  have key : ∀ b, (M b ∨ rest hp i b) ∨ C.own' b → SH.A M hp b := by
    rintro b ((hb | hb) | hb)
    · exact .inl hb
    · exact .inr (rest_all hb)
    · exact .inr ⟨i, by rw [hi]; exact hb⟩
  exact (h.rdAt j hj).sub (fun b hb _ => key b hb) (fun b hb _ => key b hb)
theorem SH.back (h : SH w0 M K w hp) (i : Nat) (hi : hp i = C) (hf : C'.firm) (hC : C'.holds w' (fun b => M b ∨ rest hp i b) C'.own') (hk : Keep C.own' w w') (hn : ∀ b, C'.own' b → b < w.heap.size → C.own' b) : SH w0 M K w' (hupd hp i C') := by
  subst hi; exact h.givenC i hf hC hk hn
theorem backRd {i : Nat} (h : RdSl R w (fun b => (M b ∨ rest hp i b) ∨ C.own' b) v l) : RdSl R w (SH.A M (hupd hp i C)) v l := by
  have key : ∀ b, SH.A M (hupd hp i C) b → (M b ∨ rest hp i b) ∨ C.own' b := by
    rintro b (hb | ⟨j, hj⟩)
    · exact .inl (.inl hb)
    · by_cases e : j = i
      · subst e; rw [hupd_same] at hj; exact .inr hj
      · rw [hupd_ne e] at hj; exact .inl (.inr ⟨j, e, hj⟩)
  exact h.sub (fun b hb _ => key b hb) (fun b hb _ => key b hb)
theorem SH.outRdC (h : SH w0 M K w hp) (i j : Nat) (hj : hp j = .rd R v l) (hi : hp i = C) : RdSl R w (fun b => M b ∨ C.own' b) v l := by
  have key : ∀ b, M b ∨ C.own' b → SH.A M hp b := by
    rintro b (hb | hb)
    · exact .inl hb
    · exact .inr ⟨i, by rw [hi]; exact hb⟩
  exact (h.rdAt j hj).sub (fun b hb _ => key b hb) (fun b hb _ => key b hb)
theorem SH.outS (h : SH w0 M K w hp) (i : Nat) (hi : hp i = C) (hf : C.firm) : C.holds w M C.own' ∧ Keep K w0 w ∧ (∀ b, C.own' b → b < w0.heap.size → K b) := h.outC i hi hf
end
section
variable {P : Program} {ops : Array Oper} {Q : Exit → Act → World → Prop} {n : Nat} {env : Nat → Value} {w : World}
theorem At.hold {w w' : World} {L : BS} {b o : Nat} {cs : List Value} (h : At w b o cs) (hk : Keep L w w') (hn : ¬ L b) : At w' b o cs := by
  obtain ⟨cells, E, fz, h1, h2⟩ := h
  exact ⟨cells, E, fz, hk.blk h1 hn, h2⟩
theorem fin4 {fn : Func} {R : Ending → World → Prop} {t u a c : Tmp} {v1 v2 v3 v4 : Value} (hr : fn.results = #[.tmp t, .tmp u, .tmp a, .tmp c]) (h1 : ev n env (.tmp t) = v1) (h2 : ev n env (.tmp u) = v2) (h3 : ev n env (.tmp a) = v3) (h4 : ev n env (.tmp c) = v4) (h : R (.returned (.tuple #[v1, v2, v3, v4])) w) : bodyPost P fn R .ret (act n env) w := by
  refine ⟨rfl, _, ?_, h⟩
  have e1 := congrFun (act_eval n env) (.tmp t)
  have e2 := congrFun (act_eval n env) (.tmp u)
  have e3 := congrFun (act_eval n env) (.tmp a)
  have e4 := congrFun (act_eval n env) (.tmp c)
  rw [h1] at e1
  rw [h2] at e2
  rw [h3] at e3
  rw [h4] at e4
  simp only [Act.eval] at e1 e2 e3 e4
  rw [Array.getD_eq_getD_getElem?] at e1 e2 e3 e4
  unfold results
  rw [hr]
  simp [e1, e2, e3, e4]
end
end Go.LX

namespace Go.LX
structure Ins where
  op : Int
  a : Int
  b : Int
  c : Int
  args : List Int
deriving DecidableEq
def rIns : Rep Ins where
  sz := 5
  rd w A cs x := ∃ vargs, cs = [.int .i64 x.op, .int .i64 x.a, .int .i64 x.b, .int .i64 x.c, vargs] ∧ RdSl rInt w A vargs x.args
  len := by rintro w A cs x ⟨vargs, rfl, h0⟩; rfl
  one := by rintro w A cs x ⟨vargs, rfl, h0⟩ u hu; simp only [List.mem_cons, List.not_mem_nil, or_false] at hu; rcases hu with rfl | rfl | rfl | rfl | rfl <;> first | rfl | exact h0.one
  pos := by decide
  go := by rintro w A cs x w2 A2 K ⟨vargs, rfl, h0⟩ hk hK hA; exact ⟨_, rfl, h0.go hk hK hA⟩
theorem rIns_open {w : World} {A : BS} {cs : List Value} {x : Ins} (h : rIns.rd w A cs x) : ∃ vargs, cs = [.int .i64 x.op, .int .i64 x.a, .int .i64 x.b, .int .i64 x.c, vargs] ∧ RdSl rInt w A vargs x.args := h
structure Proc where
  params : Int
  regs : Int
  code : List Ins
deriving DecidableEq
def rProc : Rep Proc where
  sz := 3
  rd w A cs x := ∃ vcode, cs = [.int .i64 x.params, .int .i64 x.regs, vcode] ∧ RdSl rIns w A vcode x.code
  len := by rintro w A cs x ⟨vcode, rfl, h0⟩; rfl
  one := by rintro w A cs x ⟨vcode, rfl, h0⟩ u hu; simp only [List.mem_cons, List.not_mem_nil, or_false] at hu; rcases hu with rfl | rfl | rfl <;> first | rfl | exact h0.one
  pos := by decide
  go := by rintro w A cs x w2 A2 K ⟨vcode, rfl, h0⟩ hk hK hA; exact ⟨_, rfl, h0.go hk hK hA⟩
theorem rProc_open {w : World} {A : BS} {cs : List Value} {x : Proc} (h : rProc.rd w A cs x) : ∃ vcode, cs = [.int .i64 x.params, .int .i64 x.regs, vcode] ∧ RdSl rIns w A vcode x.code := h
structure Frame where
  proc : Int
  at_ : Int
  regs : List Val
  to_ : Int
deriving DecidableEq
def rFrame : Rep Frame where
  sz := 4
  rd w A cs x := ∃ vregs, cs = [.int .i64 x.proc, .int .i64 x.at_, vregs, .int .i64 x.to_] ∧ RdSl rVal w A vregs x.regs
  len := by rintro w A cs x ⟨vregs, rfl, h0⟩; rfl
  one := by rintro w A cs x ⟨vregs, rfl, h0⟩ u hu; simp only [List.mem_cons, List.not_mem_nil, or_false] at hu; rcases hu with rfl | rfl | rfl | rfl <;> first | rfl | exact h0.one
  pos := by decide
  go := by rintro w A cs x w2 A2 K ⟨vregs, rfl, h0⟩ hk hK hA; exact ⟨_, rfl, h0.go hk hK hA⟩
theorem rFrame_open {w : World} {A : BS} {cs : List Value} {x : Frame} (h : rFrame.rd w A cs x) : ∃ vregs, cs = [.int .i64 x.proc, .int .i64 x.at_, vregs, .int .i64 x.to_] ∧ RdSl rVal w A vregs x.regs := h
structure State where
  frames : List Frame
  cells : List (List Val)
  status : Int
  wher : Int
deriving DecidableEq
def rState : Rep State where
  sz := 4
  rd w A cs x := ∃ vframes, ∃ vcells, cs = [vframes, vcells, .int .i64 x.status, .int .i64 x.wher] ∧ RdSl rFrame w A vframes x.frames ∧ RdSl (rSl rVal) w A vcells x.cells
  len := by rintro w A cs x ⟨vframes, vcells, rfl, h0, h1⟩; rfl
  one := by rintro w A cs x ⟨vframes, vcells, rfl, h0, h1⟩ u hu; simp only [List.mem_cons, List.not_mem_nil, or_false] at hu; rcases hu with rfl | rfl | rfl | rfl <;> first | rfl | exact h0.one | exact h1.one
  pos := by decide
  go := by rintro w A cs x w2 A2 K ⟨vframes, vcells, rfl, h0, h1⟩ hk hK hA; exact ⟨_, _, rfl, h0.go hk hK hA, h1.go hk hK hA⟩
theorem rState_open {w : World} {A : BS} {cs : List Value} {x : State} (h : rState.rd w A cs x) : ∃ vframes, ∃ vcells, cs = [vframes, vcells, .int .i64 x.status, .int .i64 x.wher] ∧ RdSl rFrame w A vframes x.frames ∧ RdSl (rSl rVal) w A vcells x.cells := h
def nProc : NRep Proc Ins where
  sz := 3
  enc x u := [.int .i64 x.params, .int .i64 x.regs, u]
  sub x := x.code
  put x s := { x with code := s }
  len _ _ := rfl
  one := by intro x u h c hc; simp only [List.mem_cons, List.not_mem_nil, or_false] at hc; rcases hc with rfl | rfl | rfl <;> first | rfl | exact h
  pos := by decide
  enc_put _ _ _ := rfl
  sub_put _ _ := rfl
theorem nProc_br : ∀ w A (x : Proc) u, RdSl rIns w A u (nProc.sub x) → rProc.rd w A (nProc.enc x u) x := fun _ _ _ u h => ⟨u, rfl, h⟩
def nFrame : NRep Frame Val where
  sz := 4
  enc x u := [.int .i64 x.proc, .int .i64 x.at_, u, .int .i64 x.to_]
  sub x := x.regs
  put x s := { x with regs := s }
  len _ _ := rfl
  one := by intro x u h c hc; simp only [List.mem_cons, List.not_mem_nil, or_false] at hc; rcases hc with rfl | rfl | rfl | rfl <;> first | rfl | exact h
  pos := by decide
  enc_put _ _ _ := rfl
  sub_put _ _ := rfl
theorem nFrame_br : ∀ w A (x : Frame) u, RdSl rVal w A u (nFrame.sub x) → rFrame.rd w A (nFrame.enc x u) x := fun _ _ _ u h => ⟨u, rfl, h⟩
end Go.LX

namespace Go.LX
open Go.RowKit Go.Proofs
/-! Arrays of texts. -/
structure ArrS (P : Program) (T E : TypeId) (n : Nat) : Prop where
  desc : P.underlying T = some (.array n E)
  zero : (P.info? T).map (·.zero) = some (some (.agg ((List.replicate n ([] : Str)).map strV).toArray))
  size : (P.info? E).map (·.size) = some 1
  plain : P.underlying E = some .string
section
variable {P : Program} {ops : Array Oper} {Q : Exit → Act → World → Prop} {n : Nat} {env : Nat → Value} {w w' w0 : World} {M K : BS} {hp : Nat → Chunk} {rest : List Oper}
  {d : Option Nat} {op : Op} {ty : TypeId} {pos : String} {af : Array Edge} {v : Value} {g : Option (Nat × Bool)} {T : TypeId} {ρ : Operand → Value} {x y : Operand}
theorem strV_cells (s : Str) : (strV s).cells = #[strV s] := rfl
theorem fill_str : ∀ (l pre : List Str) (suf : List Value), suf.length = l.length →
    Instr.fill (fun i => some (i * 1, 1)) (pre.map strV ++ suf).toArray ((l.zipIdx pre.length).map fun p => (p.2, strV p.1)) = some ((pre ++ l).map strV).toArray
  | [], pre, suf, h => by
    have : suf = [] := List.eq_nil_of_length_eq_zero h
    subst this
    simp [Instr.fill]
  | s :: l, pre, suf, h => by
    obtain ⟨z, suf', rfl⟩ : ∃ z s', suf = z :: s' := by
      cases suf with
      | nil => simp at h
      | cons z s' => exact ⟨z, s', rfl⟩
    have ih := fill_str l (pre ++ [s]) suf' (by simpa using h)
    simp only [List.length_append, List.length_singleton] at ih
    rw [List.zipIdx_cons, List.map_cons, Instr.fill]
    simp only
    rw [if_neg (by simp [strV_cells])]
    have e : ((strV s).cells : Array Value).zipIdx.foldl (fun cs (c, j) => cs.setIfInBounds (pre.length * 1 + j) c) (pre.map strV ++ z :: suf').toArray = ((pre ++ [s]).map strV ++ suf').toArray := by
      rw [strV_cells]
      simp [Array.zipIdx]
    rw [e, ih]
    simp
theorem r_buildS {E : TypeId} {m : Nat} {parts : Array (Nat × Operand)} {L : List Str} (hT : ArrS P T E m) (hp : (parts.toList.map fun p => (p.1, ρ p.2)) = L.zipIdx.map (fun p => (p.2, strV p.1))) (hl : L.length = m) :
    (execOp ρ ⟨d, .build T parts, ty, pos, af, g⟩).run P w = .ok (.value (.agg (L.map strV).toArray)) w := by
  obtain ⟨i, hi, hzi⟩ : ∃ i, P.info? T = some i ∧ i.zero = some (.agg ((List.replicate m ([] : Str)).map strV).toArray) := by
    have := hT.zero
    cases hi : P.info? T with
    | none => simp [hi] at this
    | some i => simp [hi] at this; exact ⟨i, rfl, by simpa using this⟩
  obtain ⟨j, hj, hsj⟩ : ∃ j, P.info? E = some j ∧ j.size = 1 := by
    have := hT.size
    cases hi : P.info? E with
    | none => simp [hi] at this
    | some i => simp [hi] at this; exact ⟨i, rfl, this⟩
  have hq : ((parts.map fun p => (p.1, ρ p.2)).toList) = L.zipIdx.map (fun p => (p.2, strV p.1)) := by simpa using hp
  have hf := fill_str L [] ((List.replicate m ([] : Str)).map strV) (by simp [hl])
  simp only [List.map_nil, List.nil_append, List.length_nil] at hf
  have c0 : (Value.agg ((List.replicate m ([] : Str)).map strV).toArray).cells = ((List.replicate m ([] : Str)).map strV).toArray := rfl
  simp only [execOp, Instr.build, underlying, zeroValue, typeInfo, sizeOf]
  simp [hi, hzi, hT.desc, hj, hsj]
  simp only [List.map_replicate] at hf c0
  simp only [List.toArray_replicate] at hf c0
  simp only [Nat.mul_one] at hf
  rw [c0, hp, hf]
  rfl
theorem r_indexA {E : TypeId} {m : Nat} {L : List Str} {vs : List Value} {s : Str} {k : Int} (hT : ArrS P T E m) (hx : ρ x = .agg vs.toArray) (hy : ρ y = .int .i64 k) (hvs : vs = L.map strV) (hl : L.length = m) (hk0 : 0 ≤ k) (hk : L[k.toNat]? = some s) :
    (execOp ρ ⟨d, .index T x y, ty, pos, af, g⟩).run P w = .ok (.value (strV s)) w := by
  subst hvs
  obtain ⟨j, hj, hsj⟩ : ∃ j, P.info? E = some j ∧ j.size = 1 := by
    have := hT.size
    cases hi : P.info? E with
    | none => simp [hi] at this
    | some i => simp [hi] at this; exact ⟨i, rfl, this⟩
  have hkl : k.toNat < L.length := get_lt hk
  have hk2 : k < (m : Int) := by omega
  have h3 : ((L.map strV).toArray)[k.toNat]? = some (strV s) := by simp [hk]
  simp only [execOp, Instr.index, hx, hy, underlying, asIntOf, part, isAgg, sizeOf, typeInfo]
  simp [hT.desc, hj, hsj, hT.plain, hk0, hk2]
  rw [hk]
  rfl
theorem fin_c {fn : Func} {R : Ending → World → Prop} {a : Tmp} {T : TypeId} {zs vs : List Value} {b : Nat} (hr : fn.results = #[.cell a T]) (ha : ev n env (.tmp a) = .pointer (some ⟨b, 0, none⟩))
    (h0 : SH w0 M K w hp) (i : Nat) (hi : hp i = .blk b vs) (hT : Many P T zs) (hl : vs.length = zs.length) (h : R (.returned (.agg vs.toArray)) w) : bodyPost P fn R .ret (act n env) w := by
  refine ⟨rfl, _, ?_, h⟩
  have e3 := congrFun (act_eval n env) (.tmp a)
  rw [ha] at e3
  simp only [Act.eval] at e3
  rw [Array.getD_eq_getD_getElem?] at e3
  have hl2 := run_loadVarN (P := P) h0 hi hT hl rfl
  unfold results
  rw [hr]
  simp [e3, asAddr, hl2]
theorem r_sliceA {E : TypeId} {m a b : Nat} {lo : Option Operand} (hT : ArrS P T E m) (hx : ρ x = .pointer (some ⟨b, 0, none⟩)) (hlo : BndIs (lo.map ρ) a 0) (ha : a < m) :
    (execOp ρ ⟨d, .slice T x lo none none, ty, pos, af, g⟩).run P w = .ok (.value (.slice (some ⟨b, a, none⟩) (m - a) (m - a))) w := by
  obtain ⟨j, hj, hsj⟩ : ∃ j, P.info? E = some j ∧ j.size = 1 := by
    have := hT.size
    cases hi : P.info? E with
    | none => simp [hi] at this
    | some i => simp [hi] at this; exact ⟨i, rfl, this⟩
  have hb2 : (Instr.sliceBounds false m m (lo.map ρ) none none).run P w = .ok (a, m, m) w := by
    rcases hlo with ⟨e1, e2⟩ | e1
    · obtain rfl : a = 0 := by omega
      simp [Instr.sliceBounds, e1]
    · simp [Instr.sliceBounds, e1, Instr.sliceBound, asIntOf, Nat.le_of_lt ha]
  simp only [execOp, Instr.sliceAt, underlying, hx, Instr.sureAddr, sizeOf, typeInfo]
  simp [hT.desc, hb2, hj, hsj, Addr.add]
  rw [if_neg (by omega)]
  by_cases h0 : a = 0
  · rw [if_pos h0, h0]
  · rw [if_neg h0]
theorem SH.blkSrc {b a : Nat} {L : List Str} {cs : List Value} (h : SH w0 M K w hp) (i : Nat) (hi : hp i = .blk b cs) (hcs : cs = L.map strV) (ha : a ≤ L.length) (hl : L.length ≤ 1000) :
    Rd2 rStr w BE (SH.A M hp) (.slice (some ⟨b, a, none⟩) (L.length - a) (L.length - a)) (L.drop a) := by
  subst hcs
  have hb := h.ok i
  rw [hi] at hb
  obtain ⟨E, hE⟩ := hb
  have e : (L.drop a).length = L.length - a := by simp
  refine ⟨some ⟨b, a, none⟩, L.length - a, by rw [e], by rw [e]; exact Nat.le_refl _, by unfold maxLen; omega, (fun h => by cases h), fun k hk => ⟨b, a, _, E, _, rfl, fun h => h, hE, ?_⟩⟩
  show List.take 1 (List.drop (a + k * 1) (L.map strV)) = [strV ((L.drop a)[k])]
  have hk' : a + k < L.length := by simp at hk; omega
  rw [Nat.mul_one, List.drop_eq_getElem_cons (by simpa using hk')]
  simp
end
end Go.LX

namespace Go.LX
structure Reader where
  w : List Str
  params : List Int
  bad : Bool
deriving DecidableEq
def rReader : Rep Reader where
  sz := 3
  rd w A cs x := ∃ vw, ∃ vparams, cs = [vw, vparams, .bool x.bad] ∧ RdSl rStr w A vw x.w ∧ RdSl rInt w A vparams x.params
  len := by rintro w A cs x ⟨vw, vparams, rfl, h0, h1⟩; rfl
  one := by rintro w A cs x ⟨vw, vparams, rfl, h0, h1⟩ u hu; simp only [List.mem_cons, List.not_mem_nil, or_false] at hu; rcases hu with rfl | rfl | rfl <;> first | rfl | exact h0.one | exact h1.one
  pos := by decide
  go := by rintro w A cs x w2 A2 K ⟨vw, vparams, rfl, h0, h1⟩ hk hK hA; exact ⟨_, _, rfl, h0.go hk hK hA, h1.go hk hK hA⟩
theorem rReader_open {w : World} {A : BS} {cs : List Value} {x : Reader} (h : rReader.rd w A cs x) : ∃ vw, ∃ vparams, cs = [vw, vparams, .bool x.bad] ∧ RdSl rStr w A vw x.w ∧ RdSl rInt w A vparams x.params := h
structure Maker where
  f : List Fun
  code : List Ins
  regs : Int
def rMaker : Rep Maker where
  sz := 3
  rd w A cs x := ∃ vf, ∃ vcode, cs = [vf, vcode, .int .i64 x.regs] ∧ RdSl rFun w A vf x.f ∧ RdSl rIns w A vcode x.code
  len := by rintro w A cs x ⟨vf, vcode, rfl, h0, h1⟩; rfl
  one := by rintro w A cs x ⟨vf, vcode, rfl, h0, h1⟩ u hu; simp only [List.mem_cons, List.not_mem_nil, or_false] at hu; rcases hu with rfl | rfl | rfl <;> first | rfl | exact h0.one | exact h1.one
  pos := by decide
  go := by rintro w A cs x w2 A2 K ⟨vf, vcode, rfl, h0, h1⟩ hk hK hA; exact ⟨_, _, rfl, h0.go hk hK hA, h1.go hk hK hA⟩
theorem rMaker_open {w : World} {A : BS} {cs : List Value} {x : Maker} (h : rMaker.rd w A cs x) : ∃ vf, ∃ vcode, cs = [vf, vcode, .int .i64 x.regs] ∧ RdSl rFun w A vf x.f ∧ RdSl rIns w A vcode x.code := h
end Go.LX

namespace Go.LX
/-! ### texts, cut at a byte: the first piece; the byte kept -/
theorem cutS_free {c : UInt8} {s : Str} (h : c ∉ s) (hl : s.length < 4294967281) : cutS s [c] = some (s, [], false) := by
  unfold cutS
  rw [grd_t hl]
  rcases idx1 c s with ⟨h1, h2⟩ | ⟨x, r, h1, h2, h3⟩
  · unfold Lib.cut; rw [h1, if_neg (by decide)]
  · exact absurd (by rw [h1]; simp) h
theorem cutS_hit {c : UInt8} {x r : Str} (h : c ∉ x) (hl : (x ++ c :: r).length < 4294967281) : cutS (x ++ c :: r) [c] = some (x, r, true) := by
  unfold cutS
  rw [grd_t hl]
  rcases idx1 c (x ++ c :: r) with ⟨h1, h2⟩ | ⟨y, q, h1, h2, h3⟩
  · exact absurd (by simp) h2
  · have e : x = y ∧ r = q := by
      have k1 := splitC_app (r := r) h
      have k2 := splitC_app (r := q) h2
      rw [← h1, k1] at k2
      injection k2 with k2 k3
      subst k2
      refine ⟨rfl, ?_⟩
      have := List.append_cancel_left h1
      injection this
    obtain ⟨rfl, rfl⟩ := e
    unfold Lib.cut
    rw [h3, if_pos (by omega)]
    simp only [Int.toNat_natCast]
    rw [List.take_left, show x.length + [c].length = (x ++ [c]).length by simp, show x ++ c :: r = (x ++ [c]) ++ r by simp, List.drop_left]
/-- All pieces but the last keep the byte. -/
def addC (c : UInt8) : List Str → List Str
  | [] => []
  | [x] => [x]
  | x :: y :: r => (x ++ [c]) :: addC c (y :: r)
theorem addC_cons (c : UInt8) (x : Str) {l : List Str} (h : l ≠ []) : addC c (x :: l) = (x ++ [c]) :: addC c l := by
  cases l with
  | nil => exact absurd rfl h
  | cons y r => rfl
theorem splitK_A (c : UInt8) : ∀ (k : Nat) (s : Str), Lib.count s [c] = k → Lib.splitK [c] 1 k s = addC c (splitC c s) := by
  intro k
  induction k with
  | zero =>
    intro s hs
    rcases idx1 c s with ⟨h1, h2⟩ | ⟨x, r, h1, h2, h3⟩
    · rw [splitC_free h2]; rfl
    · rw [Lib.count_hit (by simp) h3] at hs; omega
  | succ k ih =>
    intro s hs
    rcases idx1 c s with ⟨h1, h2⟩ | ⟨x, r, h1, h2, h3⟩
    · rw [Lib.count_miss h1] at hs; omega
    · have hm : ¬ (Lib.index s [c] == -1) = true := by rw [h3]; simp
      rw [Lib.count_hit (by simp) h3] at hs
      have hd : s.drop (x.length + [c].length) = r := by rw [h1]; simp
      rw [Lib.splitK, if_neg hm, h3]
      simp only [Int.toNat_natCast]
      rw [hd] at hs ⊢
      rw [ih r (by omega), h1, splitC_app h2, addC_cons c x (splitC_ne c r)]
      congr 1
      rw [show x.length + 1 = (x ++ [c]).length by simp, show x ++ c :: r = (x ++ [c]) ++ r by simp, List.take_left]
theorem splitAfterS_eq {s : Str} (c : UInt8) (h : s.length < 4294967281) : splitAfterS s [c] = some (addC c (splitC c s)) := by
  unfold splitAfterS
  rw [grd_t ⟨h, Nat.le_refl _⟩]
  exact congrArg some (splitK_A c _ s rfl)
theorem hasSuf_app {c : UInt8} (x : Str) (h : (x ++ [c]).length ≤ 281474976710656) : hasSufS (x ++ [c]) [c] = some true := by
  unfold hasSufS
  rw [grd_t h]
  simp [Lib.hasSuffix]
theorem hasSuf_free {c : UInt8} {x : Str} (hx : c ∉ x) (h : x.length ≤ 281474976710656) : hasSufS x [c] = some false := by
  unfold hasSufS
  rw [grd_t h]
  have : ¬ [c] <:+ x := fun hs => hx (hs.subset (by simp))
  cases hq : [c].isSuffixOf x with
  | false => simp [Lib.hasSuffix, hq]
  | true => exact absurd (List.isSuffixOf_iff_suffix.1 hq) this
/-- A text is its pieces. -/
theorem splitC_cons {c : UInt8} {s x y : Str} {l : List Str} (h : splitC c s = x :: y :: l) : ∃ r, s = x ++ c :: r ∧ splitC c r = y :: l ∧ c ∉ x := by
  have hx := (splitC_mem c s x (by rw [h]; exact List.mem_cons_self)).2
  have h1 := join_splitC c s
  rw [h, joinC_cons] at h1
  refine ⟨joinC c (y :: l), h1.symm, ?_, hx⟩
  rw [← h1, splitC_app hx] at h
  injection h
theorem splitC_single {c : UInt8} {s x : Str} (h : splitC c s = [x]) : s = x ∧ c ∉ x := by
  have hx := (splitC_mem c s x (by rw [h]; exact List.mem_cons_self)).2
  have h1 := join_splitC c s
  rw [h, joinC_one] at h1
  exact ⟨h1.symm, hx⟩
end Go.LX
