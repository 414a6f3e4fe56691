/-
  What the law VmSays needs of our own library and of the walks, no more.
-/
import Derived.Test.YtfclkapelkhlpaaGreatDoorVmSaysTh
set_option linter.unusedSimpArgs false
set_option linter.unusedVariables false
set_option maxRecDepth 10000
namespace Go.Proofs.YtfclkapelkhlpaaGreatDoor
open Go Go.Proofs Go.LX
noncomputable section
abbrev Vl : List (Int × Str) := [(2, [118]), (4, [46]), (5, [110, 101, 119]), (6, [102]), (1, [])]
theorem bnd {α β : Type} (a : α) (f : α → Option β) : (some a).bind f = f a := rfl
theorem YK {α σ : Type} {g : α → Option σ} {l : List α} (hu : ∀ p ∈ l, ∀ q ∈ l, g p ≠ none → g q ≠ none → p = q) {p : α} (hp : p ∈ l) {t : σ} (h : g p = some t) : l.findSome? g = some t := by
  cases e : l.findSome? g with
  | none =>
    rw [List.findSome?_eq_none_iff] at e
    rw [e p hp] at h; cases h
  | some u =>
    obtain ⟨q, hq, hqu⟩ := List.exists_of_findSome?_eq_some e
    have := hu p hp q hq (by rw [h]; simp) (by rw [hqu]; simp)
    subst this
    rw [h] at hqu; exact hqu.symm
theorem Pw {α σ : Type} {step : α → σ → Option σ} {g : α → Option σ} : ∀ {l : List α}, (∀ p ∈ l, ∀ s, step p s = some ((g p).getD s)) → (∀ p ∈ l, g p = none) → ∀ s, Mw step l s = some s
  | [], _, _, s => rfl
  | p :: l, h, hn, s => by
    unfold Mw
    rw [h p (by simp), hn p (by simp), Option.getD_none, bnd]
    exact Pw (fun q hq => h q (List.mem_cons_of_mem _ hq)) (fun q hq => hn q (List.mem_cons_of_mem _ hq)) s
theorem Px {α σ : Type} {step : α → σ → Option σ} {g : α → Option σ} : ∀ {l : List α}, (∀ p ∈ l, ∀ s, step p s = some ((g p).getD s)) → (∀ p ∈ l, ∀ q ∈ l, g p ≠ none → g q ≠ none → p = q) → l.Nodup → ∀ s, Mw step l s = some ((l.findSome? g).getD s)
  | [], _, _, _, s => rfl
  | p :: l, h, hu, hn, s => by
    unfold Mw
    rw [h p (by simp), bnd]
    have hn' := List.nodup_cons.1 hn
    cases e : g p with
    | none =>
      rw [Option.getD_none, Px (fun q hq => h q (List.mem_cons_of_mem _ hq)) (fun a ha b hb => hu a (List.mem_cons_of_mem _ ha) b (List.mem_cons_of_mem _ hb)) hn'.2 s, List.findSome?_cons, e]
    | some t =>
      rw [Option.getD_some, Pw (fun q hq => h q (List.mem_cons_of_mem _ hq)) (fun q hq => ?_) t, List.findSome?_cons, e]
      · rfl
      · cases e2 : g q with
        | none => rfl
        | some u =>
          have := hu p (by simp) q (List.mem_cons_of_mem _ hq) (by rw [e]; simp) (by rw [e2]; simp)
          subst this
          exact absurd hq hn'.1
theorem YL {α σ : Type} {step : α → σ → Option σ} {g : α → Option σ} {L : List α} (h : ∀ p ∈ L, ∀ s, step p s = some ((g p).getD s)) (hu : ∀ p ∈ L, ∀ q ∈ L, g p ≠ none → g q ≠ none → p = q) (hn : L.Nodup) (s : σ) : wK step L s ((L.findSome? g).getD s) := by
  intro l hl
  rw [Px (fun p hp => h p (hl.mem_iff.1 hp)) (fun p hp q hq => hu p (hl.mem_iff.1 hp) q (hl.mem_iff.1 hq)) (hl.nodup_iff.2 hn) s]
  congr 2
  cases e : L.findSome? g with
  | none =>
    rw [List.findSome?_eq_none_iff] at e ⊢
    exact fun x hx => e x (hl.mem_iff.1 hx)
  | some t =>
    obtain ⟨p, hp, ht⟩ := List.exists_of_findSome?_eq_some e
    exact YK (fun p hp q hq => hu p (hl.mem_iff.1 hp) q (hl.mem_iff.1 hq)) (hl.mem_iff.2 hp) ht
def joO (pe : Int × Str) (y : Int × Bool) (x : Bool) : Option (Int × Int) := bif x then some (pe.1, y.1) else none
def Tf (s : Str) (pe : Int × Str) : Option (Option (Int × Int)) :=
  (strings_TrimPrefix s pe.2).bind fun Lv => (EY Lv).bind fun vZ => bif (!vZ.2) then (ma (⟨pe.1, vZ.1⟩ : Tok)).bind fun uZ => some (joO pe vZ (decide ((uZ : Str) = s))) else some (joO pe vZ false)
theorem j227_eq (pe : Int × Str) (y : Int × Bool) (a b : Int) (x : Bool) : xV pe y a b x = some ((joO pe y x).getD (a, b)) := by
  unfold xV joO; cases x <;> rfl
theorem b228_eq (s : Str) (pe : Int × Str) (st : Int × Int) : tQ s pe st = (Tf s pe).bind fun o => some (o.getD st) := by
  obtain ⟨a, b⟩ := st
  unfold tQ Tf
  simp only [j227_eq]
  cases strings_TrimPrefix s pe.2 with
  | none => rfl
  | some y =>
    simp only [bnd]
    cases EY y with
    | none => rfl
    | some z =>
      simp only [bnd]
      cases z.2 with
      | true => rfl
      | false =>
        simp only [Bool.not_false, cond_true]
        cases ma (⟨pe.1, z.1⟩ : Tok) <;> rfl
def gO (s : Str) (p : Int × Str) : Option (Int × Int) := (Tf s p).join
def okW (s : Str) : Bool := Vl.all (fun p => (Tf s p).isSome) && Vl.all (fun p => Vl.all fun q => (gO s p).isNone || (gO s q).isNone || decide (p = q))
def preC (s : Str) : Int × Int := (Vl.findSome? (gO s)).getD (0, 0)
theorem fold_ok {s : Str} (h : okW s = true) : Ca (tQ s) Vl (0, 0) = some (preC s) := by
  unfold okW at h
  rw [Bool.and_eq_true, List.all_eq_true, List.all_eq_true] at h
  refine TV (YL (g := gO s) (fun p hp st => ?_) (fun p hp q hq h1 h2 => ?_) (by decide) (0, 0))
  · have h1 := h.1 p hp
    rw [b228_eq]
    unfold gO
    cases e : Tf s p with
    | none => rw [e] at h1; cases h1
    | some o => cases o <;> rfl
  · have := List.all_eq_true.1 (h.2 p hp) q hq
    rw [Bool.or_eq_true, Bool.or_eq_true] at this
    rcases this with (e | e) | e
    · exact absurd (Option.isNone_iff_eq_none.1 e) h1
    · exact absurd (Option.isNone_iff_eq_none.1 e) h2
    · exact oD e
def foldC (s : Str) : Option (Int × Int) := bif okW s then some (preC s) else Ca (tQ s) Vl (0, 0)
theorem foldC_eq (s : Str) : foldC s = Ca (tQ s) Vl (0, 0) := by
  unfold foldC
  cases e : okW s with
  | false => rfl
  | true => exact (fold_ok e).symm
def zh (N : Nat) (rJ : List Tok) (F : List iO) (AU : Int) (Db : (List Tok × Int × Bool × Int) → Option (List Tok × gF)) (x29 : Str) (zB : Bool) (y31 : Int) : Option (List Tok × gF) :=
  (foldC x29).bind fun RO => (I7 N x29 rJ F y31 AU Db zB) RO
theorem ND : @zh = @xW := by
  funext a b c d e f g h
  unfold zh xW
  rw [foldC_eq]
def Cy (N : Nat) (W : List Str) (F : List iO) (s : List Tok × Int × Bool × Int) (Db : List Tok × Int × Bool × Int → Option (List Tok × gF)) : Option (List Tok × gF) :=
  match s with | (rJ, AU, Uo, y20) => bif (decide ((0 : Int) < AU) && Uo) then bif decide (((W.length : Int) : Int) ≤ y20) then zh N rJ F AU Db [] false y20 else iK (kJ (y20 + 1)) (iK (kJ ((y20 + 1) - 1)) ((idx W ((y20 + 1) - 1)).bind fun x103 => zh N rJ F AU Db x103 Uo (y20 + 1))) else some (rJ, (⟨y20, Uo⟩ : gF))
theorem NF : @Cy = @xX := by
  unfold Cy xX
  rw [ND]
def Js (N : Nat) (sx : gF) (W : List Str) (F : List iO) : Option (List Tok × gF) :=
  again (Cy N W F) N ([], 1, sx.ok, sx.at_)
theorem Py : @Js = @I8 := by
  unfold Js I8
  rw [NF]
def zi (N : Nat) (F0 : gF → List Str → List iO → Int → Option (List cO × gF)) (ql : Int) (W : List Str) (F : List iO) (a : Int) (rR : List cO) (CG : Int) (p9 : (List cO × Int × Bool) → Option (List cO × gF)) (Uu : Int) (Uv : Bool) (qj : List Tok) : Option (List cO × gF) :=
  bif decide (((ql + 1) : Int) = 2) then (Js N (⟨Uu, Uv⟩ : gF) W F).bind fun Lv => xY F0 ql a W F rR CG qj p9 Lv.2.at_ Lv.2.ok Lv.1 else xY F0 ql a W F rR CG qj p9 Uu Uv []
theorem NG : @zi = @xZ := by
  unfold zi xZ
  rw [Py]
def wH (N : Nat) (F0 : gF → List Str → List iO → Int → Option (List cO × gF)) (ql : Int) (W : List Str) (F : List iO) (a : Int) (rR : List cO) (p9 : (List cO × Int × Bool) → Option (List cO × gF)) (Bf : Int) (Ed : Bool) (CG : Int) : Option (List cO × gF) :=
  bif decide (((ql + 1) : Int) ≠ 4) then (Js N (⟨Bf, Ed⟩ : gF) W F).bind fun y95 => zi N F0 ql W F a rR CG p9 y95.2.at_ y95.2.ok y95.1 else zi N F0 ql W F a rR CG p9 Bf Ed []
theorem NH : @wH = @vM := by
  unfold wH vM
  rw [Py, NG]
def zk (N : Nat) (F0 : gF → List Str → List iO → Int → Option (List cO × gF)) (rR : List cO) (W : List Str) (F : List iO) (a : Int) (p9 : (List cO × Int × Bool) → Option (List cO × gF)) (x27 : Str) (y28 : Int) (y29 : Bool) : Option (List cO × gF) :=
  bif decide ((x27 : Str) = [125]) then some (rR, (⟨y28, y29⟩ : gF)) else (IU [115, 101, 116, 32, 112, 117, 116, 32, 115, 97, 121, 32, 112, 97, 117, 115, 101, 32, 103, 111, 32, 105, 102, 32, 119, 104, 105, 108, 101, 32, 114, 101, 116, 117, 114, 110]).bind fun y31 => (slices_Index_string y31 x27).bind fun ql => iK (kJ (ql + 1)) (bif (!(y29 && decide ((0 : Int) < (ql + 1)))) then some ([], (⟨y28, (y29 && decide ((0 : Int) < (ql + 1)))⟩ : gF)) else bif decide (((ql + 1) : Int) ≤ 2) then bif decide (((W.length : Int) : Int) ≤ y28) then (EY []).bind fun y104 => wH N F0 ql W F a rR p9 y28 false y104.1 else iK (kJ (y28 + 1)) (iK (kJ ((y28 + 1) - 1)) ((idx W ((y28 + 1) - 1)).bind fun Lx => (EY Lx).bind fun Uw => wH N F0 ql W F a rR p9 (y28 + 1) (y29 && decide ((0 : Int) < (ql + 1))) Uw.1)) else wH N F0 ql W F a rR p9 y28 (y29 && decide ((0 : Int) < (ql + 1))) 0)
theorem NI : @zk = @yc := by
  unfold zk yc
  rw [NH]
def Cz (N : Nat) (F0 : gF → List Str → List iO → Int → Option (List cO × gF)) (W : List Str) (F : List iO) (a : Int) (s : List cO × Int × Bool) (p9 : List cO × Int × Bool → Option (List cO × gF)) : Option (List cO × gF) :=
  match s with | (rR, LA, N7) => bif N7 then bif decide (((W.length : Int) : Int) ≤ LA) then zk N F0 rR W F a p9 [] LA false else iK (kJ (LA + 1)) (iK (kJ ((LA + 1) - 1)) ((idx W ((LA + 1) - 1)).bind fun MS => zk N F0 rR W F a p9 MS (LA + 1) N7)) else some ([], (⟨LA, N7⟩ : gF))
theorem NJ : @Cz = @yf := by
  unfold Cz yf
  rw [NI]
def AQ (N : Nat) (F0 : gF → List Str → List iO → Int → Option (List cO × gF)) (W : List Str) (F : List iO) (a : Int) (y1 : Int) (y2 : Bool) : Option (List cO × gF) :=
  again (Cz N F0 W F a) N ([], y1, y2)
theorem Ow : @AQ = @zC := by
  unfold AQ zC
  rw [NJ]
def zl (N : Nat) (F0 : gF → List Str → List iO → Int → Option (List cO × gF)) (W : List Str) (F : List iO) (a : Int) (Ha : Bool) (LB : Int) (QD : Bool) : Option (List cO × gF) :=
  bif Ha then AQ N F0 W F a LB false else AQ N F0 W F a LB QD
theorem NK : @zl = @yg := by
  unfold zl yg
  rw [Ow]
def Cg (N : Nat) (F0 : gF → List Str → List iO → Int → Option (List cO × gF)) (sx : gF) (W : List Str) (F : List iO) (a : Int) : Option (List cO × gF) :=
  bif decide (((W.length : Int) : Int) ≤ sx.at_) then zl N F0 W F a true sx.at_ false else iK (kJ (sx.at_ + 1)) (iK (kJ ((sx.at_ + 1) - 1)) ((idx W ((sx.at_ + 1) - 1)).bind fun RP => zl N F0 W F a (decide ((RP : Str) ≠ [123]) || decide ((6 : Int) < a)) (sx.at_ + 1) sx.ok))
theorem QX : @Cg = @Bg := by
  unfold Cg Bg
  rw [NK]
def DT : Nat → gF → List Str → List iO → Int → Option (List cO × gF)
  | 0 => fun _ _ _ _ => none
  | N + 1 => Cg N (DT N)
theorem NL : ∀ N, DT N = zD N
  | 0 => rfl
  | N + 1 => by show Cg N (DT N) = Bg N (zD N); rw [QX, NL N]
def lK (N : Nat) (y1 : List Str) (uZ : List iO) (i101 : Int) (oU : (List iO × Int × Bool) → Option (List iO × Int)) (LC : Int) (y112 : Bool) : Option (List iO × Int) :=
  (DT N (⟨LC, y112⟩ : gF) y1 uZ 1).bind fun nT => (idx uZ i101).bind fun AV => oU ((uZ.set (i101).toNat { AV with body := nT.1 }), nT.2.at_, nT.2.ok)
theorem z8 : @lK = @jZ := by
  unfold lK jZ
  rw [show @DT = @zD from funext NL]
def lL (N : Nat) (y1 : List Str) (uZ : List iO) (i101 : Int) (oU : (List iO × Int × Bool) → Option (List iO × Int)) (Cu : Int) (QE : Bool) : Option (List iO × Int) :=
  bif decide (((y1.length : Int) : Int) ≤ Cu) then lK N y1 uZ i101 oU Cu false else iK (kJ (Cu + 1)) (iK (kJ ((Cu + 1) - 1)) ((idx y1 ((Cu + 1) - 1)).bind fun x128 => lK N y1 uZ i101 oU (Cu + 1) QE))
theorem Aa : @lL = @j3 := by
  unfold lL j3
  rw [z8]
def lM (N : Nat) (y1 : List Str) (uZ : List iO) (i101 : Int) (oU : (List iO × Int × Bool) → Option (List iO × Int)) (rE : Int) (QF : Bool) : Option (List iO × Int) :=
  bif decide (((y1.length : Int) : Int) ≤ rE) then lL N y1 uZ i101 oU rE false else iK (kJ (rE + 1)) (iK (kJ ((rE + 1) - 1)) ((idx y1 ((rE + 1) - 1)).bind fun sj => lL N y1 uZ i101 oU (rE + 1) QF))
theorem Ab : @lM = @j4 := by
  unfold lM j4
  rw [Aa]
def lN (N : Nat) (y1 : List Str) (uZ : List iO) (i101 : Int) (oU : (List iO × Int × Bool) → Option (List iO × Int)) (RS : Bool) (LD : Int) (QG : Bool) : Option (List iO × Int) :=
  bif RS then lM N y1 uZ i101 oU LD false else lM N y1 uZ i101 oU LD QG
theorem Ac : @lN = @j5 := by
  unfold lN j5
  rw [Ab]
def oL (N : Nat) (y1 : List Str) (i101 : Int) (s : List iO × Int × Bool) (oU : List iO × Int × Bool → Option (List iO × Int)) : Option (List iO × Int) :=
  match s with | (uZ, y98, y99) => bif decide (((y1.length : Int) : Int) ≤ y98) then lN N y1 uZ i101 oU true y98 false else iK (kJ (y98 + 1)) (iK (kJ ((y98 + 1) - 1)) ((idx y1 ((y98 + 1) - 1)).bind fun x152 => lN N y1 uZ i101 oU (decide ((x152 : Str) ≠ [102, 117, 110])) (y98 + 1) y99))
theorem Ad : @oL = @j6 := by
  unfold oL j6
  rw [Ac]
def oM (N : Nat) (y1 : List Str) (a : Str) (Ay : List iO) (s : Unit) : Option (List iO × Int) :=
  upto (oL N y1) (lY N y1 a) 0 ((Ay.length : Int)).toNat (Ay, 0, true)
theorem Ae : @oM = @kg := by
  unfold oM kg
  rw [Ad]
def oN (N : Nat) (y1 : List Str) (a : Str) (Ay : List iO) : Option (List iO × Int) :=
  bif (decide (((Ay.length : Int) : Int) = 0) || decide ((4 : Int) < (Ay.length : Int))) then some ([], 1) else upto (lZ Ay) (oM N y1 a Ay) 0 ((Ay.length : Int)).toNat ()
theorem Af : @oN = @ko := by
  unfold oN ko
  rw [Ae]
def sM (N : Nat) (a : Str) : Option (List iO × Int) :=
  (P7 a [32]).bind fun y1 => dZ (l5 y1) (oN N y1 a) 0 y1 []
theorem CB : @sM = @oG := by
  unfold sM oG
  rw [Af]
def vG (N : Nat) : Option (List iO) :=
  (sM N [102, 117, 110, 32, 48, 32, 49, 32, 123, 32, 115, 101, 116, 32, 48, 32, 51, 32, 119, 104, 105, 108, 101, 32, 118, 48, 32, 123, 32, 115, 97, 121, 32, 102, 49, 32, 118, 48, 32, 118, 48, 32, 103, 111, 32, 118, 48, 32, 112, 97, 117, 115, 101, 32, 115, 101, 116, 32, 48, 32, 45, 32, 118, 48, 32, 49, 32, 125, 32, 125, 32, 102, 117, 110, 32, 50, 32, 50, 32, 123, 32, 114, 101, 116, 117, 114, 110, 32, 42, 32, 118, 48, 32, 118, 49, 32, 125]).bind fun y1 => some y1.1
theorem EP : @vG = @oo := by
  unfold vG oo
  rw [CB]
abbrev NN : Nat := 70000
theorem YM : oo NN = vG NN := by rw [EP]
theorem ran_ok : wL NN = some true := by
  unfold wL
  rw [YM]
  kernel_rfl
end
end Go.Proofs.YtfclkapelkhlpaaGreatDoor
namespace Go.Proofs.YtfclkapelkhlpaaGreatDoor
open Go Go.Proofs Go.LX
theorem eqInt (a b : List Int) : slices_Equal_int a b = some (decide (a = b)) := by
  unfold slices_Equal_int
  by_cases h : a.length = b.length
  · rw [dF (by omega)]
    simp only [cond_false, Int.toNat_natCast]
    rw [JF (fun x y => decide (x = y)) a b h rfl (fun i x y nx h1 h2 => by
      unfold rT
      rw [rP, rP, h1, h2]
      by_cases e : x = y <;> simp [e]), F8 (fun _ _ => rfl)]
  · rw [dT (by omega)]
    have : a ≠ b := fun e => h (by rw [e])
    rw [dF this]; rfl
theorem yt (a b : Int) : (decide (0 ≤ a) && decide (a < b)) = aJ a b := rfl
theorem Wj (a b c : Int) : (decide (b ≤ a) && decide (a ≤ c)) = aO a b c := rfl
theorem Ch (a : Int) : dW a = aO a (-1000000000) 1000000000 := rfl
theorem mM (a b : Int) : (decide (a < 0) || decide (b ≤ a)) = !aJ a b := by
  unfold aJ; rw [Bool.eq_iff_iff]; simp; try omega
theorem yu (a : Int) : aJ a 4 = aO a 0 3 := by
  unfold aJ aO; rw [Bool.eq_iff_iff]; simp; omega
theorem EA {α : Type} (x : α) (l : List α) : idx (x :: l) 0 = some x := by simp [idx]
theorem Ci {α : Type} (x y : α) (l : List α) : idx (x :: y :: l) 1 = some y := by simp [idx]
theorem Jt {α : Type} (x y z : α) (l : List α) : idx (x :: y :: z :: l) 2 = some z := by simp [idx]
theorem Pz (op a b c : Int) (x : bX) (n : Int) (hn : n = x.regs) (full : List Int) (h : op = 7) : ∀ l : List Int, each (lT n) oV l () = each (iR ⟨op, a, b, c, full⟩ x) bP l ()
  | [] => rfl
  | y :: l => by
    subst hn h
    have e1 : each (lT x.regs) oV (y :: l) () = bif (!aJ y x.regs) then some 3 else each (lT x.regs) oV l () := rfl
    have e2 : each (iR ⟨7, a, b, c, full⟩ x) bP (y :: l) () = bif (!aJ y x.regs) then some 3 else each (iR ⟨7, a, b, c, full⟩ x) bP l () := rfl
    rw [e1, e2, Pz 7 a b c x x.regs rfl full rfl l]
theorem QY {l : List Int} : l.length = 1 ↔ ∃ x, l = [x] := by
  match l with
  | [] => simp
  | [x] => simp
  | x :: y :: r => simp
set_option maxHeartbeats 2000000 in
theorem ins_eq (c : Ins) (i : Int) (x : bX) (ps : List bX) : eX c i ps x.regs (x.code.length : Int) = dO c x ps := by
  obtain ⟨op, a, b, c, args⟩ := c
  by_cases h1 : op = 1
  · subst h1
    simp [eX, bK, dH, dS, dX, dM, bO, dI, dm, di, df, dO, dA, dB, bF, dn, dw, dz, dx, lk, dZ, EA, Ci, Jt, yt, Wj, mM, Ch, yu]
    cases ha : aJ a x.regs <;> cases hf : aO b (-1000000000) 1000000000 <;> by_cases zc : c = 0 <;> by_cases GV : args = [] <;> simp_all [each, bP]
  by_cases h2 : op = 2
  · subst h2
    simp [eX, bK, dH, dS, dX, dM, bO, dI, dm, di, df, dO, dA, dB, bF, dn, dw, dz, dx, lk, dZ, EA, Ci, Jt, yt, Wj, mM, Ch, yu]
    cases ha : aJ a x.regs <;> cases hb : aJ b x.regs <;> by_cases zc : c = 0 <;> by_cases GV : args = [] <;> simp_all [each, bP]
  by_cases h3 : op = 3
  · subst h3
    simp [eX, bK, dH, dS, dX, dM, bO, dI, dm, di, df, dO, dA, dB, bF, dn, dw, dz, dx, lk, dZ, EA, Ci, Jt, yt, Wj, mM, Ch, yu]
    cases ha : aJ a x.regs <;> cases hb : aJ b x.regs <;> cases hc : aJ c x.regs <;> simp_all [each, bP]
    by_cases e : args.length = 1
    · obtain ⟨y, rfl⟩ := QY.1 e
      cases hy : aO y 1 5 <;> simp_all [eX, bK, dH, dS, dX, dM, bO, dI, dm, di, df, dO, dA, dB, bF, dn, dw, dz, dx, lk, dZ, EA, Ci, Jt, yt, Wj, mM, Ch, yu, each, iR, bP]
    · rw [dF (show ¬ ((args.length : Int) = 1) by omega)]; rfl
  by_cases h4 : op = 4
  · subst h4
    simp [eX, bK, dH, dS, dX, dM, bO, dI, dm, di, df, dO, dA, dB, bF, dn, dw, dz, dx, lk, dZ, EA, Ci, Jt, yt, Wj, mM, Ch, yu]
    cases ha : aJ a x.regs <;> cases hb : aJ b x.regs <;> cases hf : aO c 0 3 <;> by_cases GV : args = [] <;> simp_all [each, bP]
  by_cases h5 : op = 5
  · subst h5
    simp [eX, bK, dH, dS, dX, dM, bO, dI, dm, di, df, dO, dA, dB, bF, dn, dw, dz, dx, lk, dZ, EA, Ci, Jt, yt, Wj, mM, Ch, yu]
    cases ha : aJ a x.regs <;> cases hf : aO b 1 4 <;> by_cases zc : c = 0 <;> by_cases GV : args = [] <;> simp_all [each, bP]
  by_cases h6 : op = 6
  · subst h6
    simp [eX, bK, dH, dS, dX, dM, bO, dI, dm, di, df, dO, dA, dB, bF, dn, dw, dz, dx, lk, dZ, EA, Ci, Jt, yt, Wj, mM, Ch, yu]
    cases ha : aJ a x.regs <;> cases hb : aJ b x.regs <;> by_cases zc : c = 0 <;> by_cases GV : args = [] <;> simp_all [each, bP]
  by_cases h7 : op = 7
  · subst h7
    simp [eX, bK, dH, dS, dX, dM, bO, dI, dm, di, df, dO, dA, dB, bF, dn, dw, dz, dx, lk, dZ, EA, Ci, Jt, yt, Wj, mM, Ch, yu]
    cases ha : aJ a x.regs <;> cases hf : aJ b (ps.length : Int) <;> simp_all [each, bP]
    cases hp : idx ps b with
    | none => rfl
    | some y =>
      by_cases zc : c = 0 <;> by_cases za : (args.length : Int) = y.params <;> simp_all
      exact Pz 7 a b 0 x x.regs rfl args rfl args
  by_cases h8 : op = 8
  · subst h8
    simp [eX, bK, dH, dS, dX, dM, bO, dI, dm, di, df, dO, dA, dB, bF, dn, dw, dz, dx, lk, dZ, EA, Ci, Jt, yt, Wj, mM, Ch, yu]
    cases ha : aJ a x.regs <;> by_cases zb : b = 0 <;> by_cases zc : c = 0 <;> by_cases GV : args = [] <;> simp_all [each, bP]
  by_cases h9 : op = 9
  · subst h9
    simp [eX, bK, dH, dS, dX, dM, bO, dI, dm, di, df, dO, dA, dB, bF, dn, dw, dz, dx, lk, dZ, EA, Ci, Jt, yt, Wj, mM, Ch, yu]
    cases ha : aJ a x.regs <;> by_cases zb : b = 0 <;> by_cases zc : c = 0 <;> by_cases GV : args = [] <;> simp_all [each, bP]
  by_cases h10 : op = 10
  · subst h10
    simp [eX, bK, dH, dS, dX, dM, bO, dI, dm, di, df, dO, dA, dB, bF, dn, dw, dz, dx, lk, dZ, EA, Ci, Jt, yt, Wj, mM, Ch, yu]
    by_cases za : a = 0 <;> by_cases zb : b = 0 <;> by_cases zc : c = 0 <;> by_cases GV : args = [] <;> simp_all [each, bP]
  by_cases h11 : op = 11
  · subst h11
    simp [eX, bK, dH, dS, dX, dM, bO, dI, dm, di, df, dO, dA, dB, bF, dn, dw, dz, dx, lk, dZ, EA, Ci, Jt, yt, Wj, mM, Ch, yu]
    cases ha : aJ a x.regs <;> by_cases zb : b = 0 <;> by_cases zc : c = 0 <;> by_cases GV : args = [] <;> simp_all [each, bP]
  by_cases h12 : op = 12
  · subst h12
    simp [eX, bK, dH, dS, dX, dM, bO, dI, dm, di, df, dO, dA, dB, bF, dn, dw, dz, dx, lk, dZ, EA, Ci, Jt, yt, Wj, mM, Ch, yu]
    by_cases za : a = 0 <;> cases hf : aJ b (x.code.length : Int) <;> by_cases zc : c = 0 <;> by_cases GV : args = [] <;> simp_all [each, bP]
  by_cases h13 : op = 13
  · subst h13
    simp [eX, bK, dH, dS, dX, dM, bO, dI, dm, di, df, dO, dA, dB, bF, dn, dw, dz, dx, lk, dZ, EA, Ci, Jt, yt, Wj, mM, Ch, yu]
    cases ha : aJ a x.regs <;> cases hf : aJ b (x.code.length : Int) <;> by_cases zc : c = 0 <;> by_cases GV : args = [] <;> simp_all [each, bP]
  · simp [eX, bK, dH, dS, dX, dO, lk, *]
def yw (i : Nat) (x : bX) : Int :=
  if (0 ≤ x.params ∧ x.params ≤ 3) ∧ (1 ≤ x.regs ∧ x.params ≤ x.regs ∧ x.regs ≤ 40) ∧ ¬ (i = 0 ∧ x.params ≠ 0) then (if 1 ≤ x.code.length ∧ x.code.length ≤ 2000 then 0 else 2) else 3
theorem b39_eq (i : Nat) (x : bX) (nx : Unit → Option Int) : kr (i : Int) x () nx = if yw i x ≠ 0 then some (yw i x) else nx () := by
  unfold kr yw
  by_cases h1 : (0 ≤ x.params ∧ x.params ≤ 3) ∧ (1 ≤ x.regs ∧ x.params ≤ x.regs ∧ x.regs ≤ 40) ∧ ¬ (i = 0 ∧ x.params ≠ 0)
  · have e : (((((decide ((x.params : Int) < 0) || decide ((3 : Int) < x.params)) || decide ((x.regs : Int) < 1)) || decide ((x.regs : Int) < x.params)) || decide ((40 : Int) < x.regs)) || (decide ((i : Int) = 0) && decide ((0 : Int) < x.params))) = false := by
      simp only [Bool.or_eq_false_iff, Bool.and_eq_false_iff, decide_eq_false_iff_not]; omega
    rw [e, if_pos h1]
    simp only [cond_false]
    by_cases h2 : 1 ≤ x.code.length ∧ x.code.length ≤ 2000
    · rw [if_pos h2, show (decide (((x.code.length : Int) : Int) = 0) || decide ((2000 : Int) < (x.code.length : Int))) = false by simp only [Bool.or_eq_false_iff, decide_eq_false_iff_not]; omega]
      rfl
    · rw [if_neg h2, show (decide (((x.code.length : Int) : Int) = 0) || decide ((2000 : Int) < (x.code.length : Int))) = true by simp only [Bool.or_eq_true, decide_eq_true_eq]; omega]
      rfl
  · have e : (((((decide ((x.params : Int) < 0) || decide ((3 : Int) < x.params)) || decide ((x.regs : Int) < 1)) || decide ((x.regs : Int) < x.params)) || decide ((40 : Int) < x.regs)) || (decide ((i : Int) = 0) && decide ((0 : Int) < x.params))) = true := by
      simp only [Bool.or_eq_true, Bool.and_eq_true, decide_eq_true_eq]; omega
    rw [e, if_neg h1]
    rfl
theorem r39_eq (i : Nat) (x : bX) (nx : Unit → Option Int) : gu (i : Int) x () nx = if yw i x ≠ 0 then some (yw i x) else nx () := by
  unfold gu yw aO
  by_cases h1 : (0 ≤ x.params ∧ x.params ≤ 3) ∧ (1 ≤ x.regs ∧ x.params ≤ x.regs ∧ x.regs ≤ 40) ∧ ¬ (i = 0 ∧ x.params ≠ 0)
  · have e : (((!(decide ((0 : Int) ≤ x.params) && decide (x.params ≤ (3 : Int)))) || (!(decide (max 1 x.params ≤ x.regs) && decide (x.regs ≤ (40 : Int))))) || (decide ((i : Int) = 0) && decide ((x.params : Int) ≠ 0))) = false := by
      simp only [Bool.or_eq_false_iff, Bool.and_eq_false_iff, Bool.not_eq_false', Bool.and_eq_true, decide_eq_true_eq, decide_eq_false_iff_not]; omega
    rw [e, if_pos h1]
    simp only [cond_false]
    by_cases h2 : 1 ≤ x.code.length ∧ x.code.length ≤ 2000
    · rw [if_pos h2, show (!(decide ((1 : Int) ≤ (x.code.length : Int)) && decide ((x.code.length : Int) ≤ (2000 : Int)))) = false by simp only [Bool.not_eq_false', Bool.and_eq_true, decide_eq_true_eq]; omega]
      rfl
    · rw [if_neg h2, show (!(decide ((1 : Int) ≤ (x.code.length : Int)) && decide ((x.code.length : Int) ≤ (2000 : Int)))) = true by simp only [Bool.not_eq_true', Bool.and_eq_false_iff, decide_eq_false_iff_not]; omega]
      rfl
  · have e : (((!(decide ((0 : Int) ≤ x.params) && decide (x.params ≤ (3 : Int)))) || (!(decide (max 1 x.params ≤ x.regs) && decide (x.regs ≤ (40 : Int))))) || (decide ((i : Int) = 0) && decide ((x.params : Int) ≠ 0))) = true := by
      simp only [Bool.or_eq_true, Bool.and_eq_true, Bool.not_eq_true', Bool.and_eq_false_iff, decide_eq_true_eq, decide_eq_false_iff_not]; omega
    rw [e, if_neg h1]
    rfl
def heads : Nat → List bX → Int
  | _, [] => 0
  | i, x :: p => if yw i x ≠ 0 then yw i x else heads (i + 1) p
theorem Ju (k : Unit → Option Int) : ∀ (p : List bX) (i : Nat), dZ kr k (i : Int) p () = if heads i p ≠ 0 then some (heads i p) else k ()
  | [], i => by simp [heads, dZ]
  | x :: p, i => by
    show kr (i : Int) x () (dZ kr k ((i : Int) + 1) p) = _
    rw [b39_eq, show ((i : Int) + 1) = ((i + 1 : Nat) : Int) by omega, Ju k p (i + 1), heads]
    by_cases h : yw i x = 0 <;> simp [h]
theorem PD (k : Unit → Option Int) : ∀ (p : List bX) (i : Nat), dZ gu k (i : Int) p () = if heads i p ≠ 0 then some (heads i p) else k ()
  | [], i => by simp [heads, dZ]
  | x :: p, i => by
    show gu (i : Int) x () (dZ gu k ((i : Int) + 1) p) = _
    rw [r39_eq, show ((i : Int) + 1) = ((i + 1 : Nat) : Int) by omega, PD k p (i + 1), heads]
    by_cases h : yw i x = 0 <;> simp [h]
theorem b35_eq (a : List bX) (x : bX) (i : Int) (c : Ins) (nx : Unit → Option Int) : fF a x i c () nx = fB x a c () nx := by
  unfold fF fB
  rw [ins_eq]
theorem NM (a : List bX) (x : bX) (k : Unit → Option Int) : ∀ (l : List Ins) (i : Int), dZ (fF a x) k i l () = each (fB x a) k l ()
  | [], i => rfl
  | c :: l, i => by
    have ih : dZ (fF a x) k (i + 1) l = each (fB x a) k l := by funext u; exact NM a x k l (i + 1)
    have e1 : dZ (fF a x) k i (c :: l) () = fF a x i c () (dZ (fF a x) k (i + 1) l) := rfl
    have e2 : each (fB x a) k (c :: l) () = fB x a c () (each (fB x a) k l) := rfl
    rw [e1, e2, b35_eq, ih]
theorem b37_eq (a : List bX) (x : bX) (nx : Unit → Option Int) : iq a x () nx = fC a x () nx := by
  unfold iq fC
  rw [NM]
  rfl
theorem check_eq (a : List bX) : rF a = mF a := by
  unfold rF mF
  have e : (decide (((a.length : Int) : Int) = 0) || decide ((4 : Int) < (a.length : Int))) = !(aO (a.length : Int) 1 4) := by
    unfold aO; rw [Bool.eq_iff_iff]; simp only [Bool.or_eq_true, Bool.not_eq_true', Bool.and_eq_false_iff, decide_eq_true_eq, decide_eq_false_iff_not]; omega
  rw [e]
  have k1 : ∀ l : List bX, each (iq a) kV l () = each (fC a) iM l () := by
    intro l
    induction l with
    | nil => rfl
    | cons x l ih =>
      have e1 : each (iq a) kV (x :: l) () = iq a x () (each (iq a) kV l) := rfl
      have e2 : each (fC a) iM (x :: l) () = fC a x () (each (fC a) iM l) := rfl
      have : (each (iq a) kV l) = (each (fC a) iM l) := by funext u; exact ih
      rw [e1, e2, b37_eq, this]
  have h1 := Ju (kW a) a 0
  have h2 := PD (jw a) a 0
  have h1' : dZ kr (kW a) 0 a () = _ := h1
  have h2' : dZ gu (jw a) 0 a () = _ := h2
  have k2 : kW a () = jw a () := k1 a
  rw [h1', h2', k2]
end Go.Proofs.YtfclkapelkhlpaaGreatDoor
namespace Go.Proofs.YtfclkapelkhlpaaGreatDoor
open Go Go.Proofs Go.LX
def uL (x : bX) : Prop := 1 ≤ x.code.length ∧ x.code.length ≤ 2000
theorem dU {α σ ρ : Type} {body : α → σ → (σ → ρ) → ρ} {k : σ → ρ} (x : α) (l : List α) (s : σ) : each body k (x :: l) s = body x s (each body k l) := rfl
theorem fO {α σ ρ : Type} {body : α → σ → (σ → ρ) → ρ} {k : σ → ρ} (s : σ) : each body k [] s = k s := rfl
theorem b8_tot (d : Int) : ∀ l : List Int, ∃ y, each (lT d) oV l () = some y
  | [] => ⟨0, rfl⟩
  | x :: l => by
    obtain ⟨y, hy⟩ := b8_tot d l
    rw [dU]
    unfold lT
    cases (!(decide ((0 : Int) ≤ x) && decide ((x : Int) < d))) with
    | true => exact ⟨3, rfl⟩
    | false => exact ⟨y, hy⟩
theorem j5_tot (x9 : Bool) (a : Ins) (b L9 : Int) (c : List bX) (y13 Al d Y2 : Int) : ∃ y, dI x9 a b L9 c y13 Al d Y2 = some y ∧ (y = 0 → (a.args.length : Int) = Al) := by
  unfold dI
  cases x9 with
  | false => exact ⟨3, rfl, fun h => absurd h (by decide)⟩
  | true =>
    simp only [Bool.not_true, cond_false]
    generalize hc : (((decide ((a.a : Int) ≠ Y2) || decide ((a.b : Int) ≠ L9)) || decide ((a.c : Int) ≠ y13)) || decide (((a.args.length : Int) : Int) ≠ Al)) = C
    cases C with
    | true => exact ⟨4, rfl, fun h => absurd h (by decide)⟩
    | false =>
      simp only [Bool.or_eq_false_iff, decide_eq_false_iff_not, Decidable.not_not] at hc
      simp only [cond_false]
      cases decide ((a.op : Int) = 7) with
      | true => obtain ⟨y, hy⟩ := b8_tot d a.args; exact ⟨y, hy, fun _ => hc.2⟩
      | false => exact ⟨0, rfl, fun _ => hc.2⟩
theorem j4_tot (a : Ins) (b : Int) (c : List bX) (d : Int) (x9 : Bool) (Al jF L9 y13 : Int) : ∃ y, bO a b c d x9 Al jF L9 y13 = some y ∧ (y = 0 → (a.args.length : Int) = Al) := by
  unfold bO
  cases decide ((a.op : Int) = 12) with
  | true => exact j5_tot x9 a b L9 c y13 Al d 0
  | false => exact j5_tot x9 a b L9 c y13 Al d jF
def QZ (a : Ins) (r : Option Int) : Prop := ∃ y, r = some y ∧ (y = 0 → a.args.length ≤ 3)
theorem Ox (a : Ins) (b : Int) (c : List bX) (d : Int) (x9 : Bool) {Al : Int} (jF L9 y13 : Int) (h : Al ≤ 3) : QZ a (bO a b c d x9 Al jF L9 y13) := by
  obtain ⟨y, h1, h2⟩ := j4_tot a b c d x9 Al jF L9 y13
  exact ⟨y, h1, fun h0 => by have := h2 h0; omega⟩
theorem uo {a : Ins} {c : Bool} {x y : Option Int} (h1 : QZ a x) (h2 : QZ a y) : QZ a (bif c then x else y) := by
  cases c
  · exact h2
  · exact h1
theorem NP {a : Ins} {e : Int} (h : e ≠ 0) : QZ a (some e) := ⟨e, rfl, fun h0 => absurd h0 h⟩
theorem YN (a : Ins) (b : Int) (c : List bX) (d e : Int) (hp : ∀ x ∈ c, x.params ≤ 3) : QZ a (eX a b c d e) := by
  unfold eX
  refine uo (NP (by decide)) (uo (NP (by decide)) (uo (Ox _ _ _ _ _ _ _ _ (by decide)) (uo (Ox _ _ _ _ _ _ _ _ (by decide)) ?_)))
  have k12 : ∀ x, QZ a (df a b c d x) := fun x => by
    unfold df
    exact uo (Ox _ _ _ _ _ _ _ _ (by decide)) (uo (Ox _ _ _ _ _ _ _ _ (by decide)) (Ox _ _ _ _ _ _ _ _ (by decide)))
  have k11 : ∀ x, QZ a (di a b c d e x) := fun x => by
    unfold di
    refine uo (Ox _ _ _ _ _ _ _ _ (by decide)) ?_
    cases decide ((a.op : Int) = 7) with
    | false =>
      rw [cond_false]
      exact uo (k12 _) (uo (k12 _) (k12 _))
    | true =>
      simp only [cond_true]
      rw [mM]
      cases hb : aJ a.b (c.length : Int) with
      | false => exact NP (by decide)
      | true =>
        simp only [Bool.not_true, cond_false]
        unfold aJ at hb
        simp only [Bool.and_eq_true, decide_eq_true_eq] at hb
        obtain ⟨n, hn⟩ := Int.eq_ofNat_of_zero_le hb.1
        rw [hn, xM (by omega), Option.bind_some]
        exact Ox _ _ _ _ _ _ _ _ (hp _ (List.getElem_mem _))
  have k10 : ∀ x, QZ a (dm a b c d e x) := fun x => by
    unfold dm
    refine uo (Ox _ _ _ _ _ _ _ _ (by decide)) ?_
    cases decide ((a.op : Int) = 3) with
    | false =>
      rw [cond_false]
      exact uo (k11 _) (k11 _)
    | true =>
      simp only [cond_true]
      by_cases h1 : a.args.length = 1
      · rw [dT (show ((a.args.length : Int) : Int) = 1 by omega)]
        obtain ⟨y, hy⟩ := QY.1 h1
        simp only [cond_true]
        rw [show idx a.args 0 = some y by rw [hy, EA], Option.bind_some]
        exact Ox _ _ _ _ _ _ _ _ (by decide)
      · rw [dF (show ¬ ((a.args.length : Int) : Int) = 1 by omega)]
        exact Ox _ _ _ _ _ _ _ _ (by decide)
  exact uo (k10 _) (k10 _)
def Good (a : List bX) : Prop := a.length ≤ 4 ∧ ∀ x ∈ a, uL x ∧ ∀ c ∈ x.code, c.args.length ≤ 3
theorem Tg {i : Nat} {x : bX} (h : yw i x = 0) : x.params ≤ 3 ∧ uL x := by
  unfold yw at h
  split at h
  · split at h
    · exact ⟨by omega, by unfold uL; omega⟩
    · cases h
  · cases h
theorem NQ : ∀ (p : List bX) (i : Nat), heads i p = 0 → ∀ x ∈ p, x.params ≤ 3 ∧ uL x
  | [], _, _, x, hx => by cases hx
  | y :: p, i, h, x, hx => by
    unfold heads at h
    split at h
    · rename_i h1; exact absurd h h1
    · rename_i h1
      rcases List.mem_cons.1 hx with rfl | hx
      · exact Tg (Decidable.not_not.1 h1)
      · exact NQ p (i + 1) h x hx
theorem Wl (a : List bX) (x : bX) (k : Unit → Option Int) (hp : ∀ x ∈ a, x.params ≤ 3) (Q : Prop) (hk : ∃ y, k () = some y ∧ (y = 0 → Q)) : ∀ (l : List Ins) (i : Int), ∃ y, dZ (fF a x) k i l () = some y ∧ (y = 0 → Q ∧ ∀ c ∈ l, c.args.length ≤ 3)
  | [], i => by
    obtain ⟨y, h1, h2⟩ := hk
    exact ⟨y, h1, fun h => ⟨h2 h, by intro c hc; cases hc⟩⟩
  | c :: l, i => by
    obtain ⟨y, h1, h2⟩ := Wl a x k hp Q hk l (i + 1)
    have e1 : dZ (fF a x) k i (c :: l) () = fF a x i c () (dZ (fF a x) k (i + 1) l) := rfl
    rw [e1]
    unfold fF
    obtain ⟨z, g1, g2⟩ := YN c i a x.regs (x.code.length : Int) hp
    rw [g1, Option.bind_some]
    by_cases hz : z = 0
    · rw [dF (by omega), cond_false]
      refine ⟨y, h1, fun h => ⟨(h2 h).1, fun d hd => ?_⟩⟩
      rcases List.mem_cons.1 hd with rfl | hd
      · exact g2 hz
      · exact (h2 h).2 d hd
    · rw [dT hz, cond_true]
      exact ⟨z, rfl, fun h => absurd h hz⟩
theorem Wm (a : List bX) (hp : ∀ x ∈ a, x.params ≤ 3 ∧ uL x) : ∀ l : List bX, (∀ x ∈ l, x.params ≤ 3 ∧ uL x) → ∃ y, each (iq a) kV l () = some y ∧ (y = 0 → ∀ x ∈ l, ∀ c ∈ x.code, c.args.length ≤ 3)
  | [], _ => ⟨0, rfl, fun _ x hx => by cases hx⟩
  | x :: l, hl => by
    obtain ⟨y, h1, h2⟩ := Wm a hp l (fun z hz => hl z (List.mem_cons_of_mem _ hz))
    rw [dU]
    unfold iq
    have hx := hl x (by simp)
    obtain ⟨z, g1, g2⟩ := Wl a x (su x (each (iq a) kV l)) (fun x hx => (hp x hx).1) (∀ x ∈ l, ∀ c ∈ x.code, c.args.length ≤ 3) (by
      unfold su
      have h3 := hx.2
      unfold uL at h3
      rw [gI, show ((x.code.length : Int) - 1) = ((x.code.length - 1 : Nat) : Int) by omega, xM (by omega), Option.bind_some]
      cases (decide ((x.code[x.code.length - 1].op : Int) ≠ 8) && decide ((x.code[x.code.length - 1].op : Int) ≠ 12)) with
      | true => exact ⟨4, rfl, fun h => absurd h (by decide)⟩
      | false => exact ⟨y, h1, h2⟩) x.code 0
    refine ⟨z, g1, fun h => ?_⟩
    intro w hw
    rcases List.mem_cons.1 hw with rfl | hw
    · exact (g2 h).2
    · exact (g2 h).1 w hw
theorem YO (a : List bX) : ∃ y, rF a = some y ∧ (y = 0 → Good a) := by
  unfold rF
  generalize hc : (decide (((a.length : Int) : Int) = 0) || decide ((4 : Int) < (a.length : Int))) = C
  cases C with
  | true => exact ⟨2, rfl, fun h => absurd h (by decide)⟩
  | false =>
    simp only [Bool.or_eq_false_iff, decide_eq_false_iff_not] at hc
    have h1 : dZ kr (kW a) 0 a () = _ := Ju (kW a) a 0
    rw [cond_false, h1]
    by_cases hz : heads 0 a = 0
    · rw [if_neg (by omega)]
      have hp := NQ a 0 hz
      obtain ⟨y, g1, g2⟩ := Wm a hp a hp
      exact ⟨y, g1, fun h => ⟨by omega, fun x hx => ⟨(hp x hx).2, g2 h x hx⟩⟩⟩
    · rw [if_pos hz]
      exact ⟨_, rfl, fun h => absurd h hz⟩
def Ti (a : List bX) : Int := (rF a).getD 0
theorem Q0 (a : List bX) : rF a = some (Ti a) := by
  obtain ⟨y, h, _⟩ := YO a
  unfold Ti
  rw [h]; rfl
theorem chk_eq2 (a : List bX) : mF a = some (Ti a) := by rw [← check_eq, Q0]
def wy (R x : Int) : Prop := 0 ≤ x ∧ x < R
def ER (a : List bX) (R L : Int) (c : Ins) : Prop :=
  (c.op = 1 ∧ wy R c.a ∧ (-1000000000 ≤ c.b ∧ c.b ≤ 1000000000)) ∨
  (c.op = 2 ∧ wy R c.a ∧ wy R c.b) ∨
  (c.op = 3 ∧ wy R c.a ∧ wy R c.b ∧ wy R c.c ∧ ∃ n, c.args = [n] ∧ 1 ≤ n ∧ n ≤ 5) ∨
  ((c.op = 4 ∨ c.op = 6) ∧ wy R c.a ∧ wy R c.b ∧ (0 ≤ c.c ∧ c.c < 4)) ∨
  (c.op = 5 ∧ wy R c.a ∧ (1 ≤ c.b ∧ c.b ≤ 4)) ∨
  (c.op = 7 ∧ wy R c.a ∧ (∃ p, idx a c.b = some p ∧ (c.args.length : Int) = p.params) ∧ ∀ x ∈ c.args, wy R x) ∨
  ((c.op = 8 ∨ c.op = 9 ∨ c.op = 11) ∧ wy R c.a) ∨
  c.op = 10 ∨
  (c.op = 12 ∧ (0 ≤ c.b ∧ c.b < L)) ∨
  (c.op = 13 ∧ wy R c.a ∧ (0 ≤ c.b ∧ c.b < L))
theorem Wn (R : Int) : ∀ l : List Int, each (lT R) oV l () = some 0 → ∀ x ∈ l, wy R x
  | [], _, x, hx => by cases hx
  | y :: l, h, x, hx => by
    rw [dU] at h
    unfold lT at h
    cases e : (!(decide ((0 : Int) ≤ y) && decide ((y : Int) < R))) with
    | true => rw [e, cond_true] at h; cases h
    | false =>
      rw [e, cond_false] at h
      rcases List.mem_cons.1 hx with rfl | hx
      · simp at e; exact e
      · exact Wn R l h x hx
theorem insG_of {c : Ins} {i : Int} {a : List bX} {R L : Int} (h : eX c i a R L = some 0) : ER a R L c := by
  obtain ⟨op, ca, cb, cc, args⟩ := c
  by_cases h1 : op = 1
  · subst h1
    simp [eX, bK, dH, dS, dX, dM, bO, dI, dm, di, df, Bool.cond_eq_ite] at h
    simp [ER, wy]
    (repeat (split at h; · simp at h))
    omega
  by_cases h2 : op = 2
  · subst h2
    simp [eX, bK, dH, dS, dX, dM, bO, dI, dm, di, df, Bool.cond_eq_ite] at h
    simp [ER, wy]
    (repeat (split at h; · simp at h))
    omega
  by_cases h3 : op = 3
  · subst h3
    simp [eX, bK, dH, dS, dX, dM, bO, dI, dm, di, df, Bool.cond_eq_ite] at h
    simp [ER, wy]
    by_cases hl : args.length = 1
    · obtain ⟨y, rfl⟩ := QY.1 hl
      simp [EA] at h
      split at h
      · simp at h
      split at h
      · simp at h
      refine ⟨by omega, by omega, by omega, y, rfl, by omega, by omega⟩
    · exfalso
      rw [if_neg (show ¬ ((args.length : Int) = 1) by omega)] at h
      split at h <;> simp at h
  by_cases h4 : op = 4
  · subst h4
    simp [eX, bK, dH, dS, dX, dM, bO, dI, dm, di, df, Bool.cond_eq_ite] at h
    simp [ER, wy]
    (repeat (split at h; · simp at h))
    omega
  by_cases h5 : op = 5
  · subst h5
    simp [eX, bK, dH, dS, dX, dM, bO, dI, dm, di, df, Bool.cond_eq_ite] at h
    simp [ER, wy]
    (repeat (split at h; · simp at h))
    omega
  by_cases h6 : op = 6
  · subst h6
    simp [eX, bK, dH, dS, dX, dM, bO, dI, dm, di, df, Bool.cond_eq_ite] at h
    simp [ER, wy]
    (repeat (split at h; · simp at h))
    omega
  by_cases h7 : op = 7
  · subst h7
    simp [eX, bK, dH, dS, dX, dM, bO, dI, dm, di, df, Bool.cond_eq_ite] at h
    simp [ER, wy]
    split at h
    · simp at h
    split at h
    · simp at h
    obtain ⟨p, hp, h⟩ := aL h
    (repeat (split at h; · simp at h))
    refine ⟨by omega, ⟨p, hp, by omega⟩, fun x hx => Wn R args h x hx⟩
  by_cases h8 : op = 8
  · subst h8
    simp [eX, bK, dH, dS, dX, dM, bO, dI, dm, di, df, Bool.cond_eq_ite] at h
    simp [ER, wy]
    (repeat (split at h; · simp at h))
    omega
  by_cases h9 : op = 9
  · subst h9
    simp [eX, bK, dH, dS, dX, dM, bO, dI, dm, di, df, Bool.cond_eq_ite] at h
    simp [ER, wy]
    (repeat (split at h; · simp at h))
    omega
  by_cases h10 : op = 10
  · subst h10
    simp [ER, wy]
  by_cases h11 : op = 11
  · subst h11
    simp [eX, bK, dH, dS, dX, dM, bO, dI, dm, di, df, Bool.cond_eq_ite] at h
    simp [ER, wy]
    (repeat (split at h; · simp at h))
    omega
  by_cases h12 : op = 12
  · subst h12
    simp [eX, bK, dH, dS, dX, dM, bO, dI, dm, di, df, Bool.cond_eq_ite] at h
    simp [ER, wy]
    (repeat (split at h; · simp at h))
    omega
  by_cases h13 : op = 13
  · subst h13
    simp [eX, bK, dH, dS, dX, dM, bO, dI, dm, di, df, Bool.cond_eq_ite] at h
    simp [ER, wy]
    (repeat (split at h; · simp at h))
    omega
  · exfalso
    simp [eX, bK, dH, dS, dX, dM, bO, dI, dm, di, df, Bool.cond_eq_ite, *] at h
structure nL (a : List bX) : Prop where
  many : 1 ≤ a.length ∧ a.length ≤ 4
  head : ∀ (i : Nat) x, a[i]? = some x → (0 ≤ x.params ∧ x.params ≤ 3) ∧ (1 ≤ x.regs ∧ x.params ≤ x.regs ∧ x.regs ≤ 40) ∧ ¬ (i = 0 ∧ x.params ≠ 0) ∧ uL x
  last : ∀ x ∈ a, ∃ c, idx x.code ((x.code.length : Int) - 1) = some c ∧ (c.op = 8 ∨ c.op = 12)
  ins : ∀ x ∈ a, ∀ c ∈ x.code, ER a x.regs x.code.length c
theorem PE : ∀ (p : List bX) (j : Nat), heads j p = 0 → ∀ (i : Nat) x, p[i]? = some x → yw (j + i) x = 0
  | [], j, _, i, x, hx => by simp at hx
  | y :: p, j, h, i, x, hx => by
    unfold heads at h
    split at h
    · rename_i h1; exact absurd h h1
    · rename_i h1
      cases i with
      | zero => simp at hx; subst hx; exact Decidable.not_not.1 h1
      | succ i => rw [show j + (i + 1) = (j + 1) + i by omega]; exact PE p (j + 1) h i x (by simpa using hx)
theorem Wo (a : List bX) (x : bX) (k : Unit → Option Int) : ∀ (l : List Ins) (i : Int), dZ (fF a x) k i l () = some 0 → k () = some 0 ∧ ∀ c ∈ l, ER a x.regs x.code.length c
  | [], i, h => ⟨h, fun c hc => by cases hc⟩
  | y :: l, i, h => by
    have e1 : dZ (fF a x) k i (y :: l) () = fF a x i y () (dZ (fF a x) k (i + 1) l) := rfl
    rw [e1] at h
    unfold fF at h
    obtain ⟨z, hz, h⟩ := aL h
    by_cases z0 : z = 0
    · subst z0
      rw [dF (by simp), cond_false] at h
      obtain ⟨h1, h2⟩ := Wo a x k l (i + 1) h
      refine ⟨h1, fun c hc => ?_⟩
      rcases List.mem_cons.1 hc with rfl | hc
      · exact insG_of hz
      · exact h2 c hc
    · rw [dT z0, cond_true] at h
      exact absurd (fM h) z0
theorem Wp (a : List bX) : ∀ l : List bX, each (iq a) kV l () = some 0 → ∀ x ∈ l, (∃ c, idx x.code ((x.code.length : Int) - 1) = some c ∧ (c.op = 8 ∨ c.op = 12)) ∧ ∀ c ∈ x.code, ER a x.regs x.code.length c
  | [], _, x, hx => by cases hx
  | y :: l, h, x, hx => by
    rw [dU] at h
    unfold iq at h
    obtain ⟨h1, h2⟩ := Wo a y _ y.code 0 h
    unfold su at h1
    obtain ⟨_, h1⟩ := bG h1
    obtain ⟨c, hc, h1⟩ := aL h1
    cases e : (decide ((c.op : Int) ≠ 8) && decide ((c.op : Int) ≠ 12)) with
    | true => rw [e, cond_true] at h1; cases h1
    | false =>
      rw [e, cond_false] at h1
      rcases List.mem_cons.1 hx with rfl | hx
      · exact ⟨⟨c, hc, by simp only [Bool.and_eq_false_iff, decide_eq_false_iff_not, Decidable.not_not] at e; exact e⟩, h2⟩
      · exact Wp a l h1 x hx
theorem FV {a : List bX} (h : Ti a = 0) : nL a := by
  have h0 := Q0 a
  rw [h] at h0
  unfold rF at h0
  generalize hc : (decide (((a.length : Int) : Int) = 0) || decide ((4 : Int) < (a.length : Int))) = C at h0
  cases C with
  | true => cases h0
  | false =>
    simp only [Bool.or_eq_false_iff, decide_eq_false_iff_not] at hc
    have h1 : dZ kr (kW a) 0 a () = _ := Ju (kW a) a 0
    rw [cond_false, h1] at h0
    by_cases hz : heads 0 a = 0
    · rw [if_neg (by omega)] at h0
      have hb := Wp a a h0
      refine ⟨by omega, fun i x hx => ?_, fun x hx => (hb x hx).1, fun x hx => (hb x hx).2⟩
      have := PE a 0 hz i x hx
      rw [Nat.zero_add] at this
      unfold yw at this
      split at this
      · rename_i g
        split at this
        · rename_i g2; exact ⟨g.1, g.2.1, g.2.2, g2⟩
        · cases this
      · cases this
    · rw [if_pos hz] at h0
      exact absurd (fM h0) hz
end Go.Proofs.YtfclkapelkhlpaaGreatDoor
namespace Go.Proofs.YtfclkapelkhlpaaGreatDoor
open Go Go.Proofs Go.LX
theorem iQ {α σ ρ : Type} {body : Int → α → σ → (σ → ρ) → ρ} {k : σ → ρ} (i : Int) (x : α) (l : List α) (s : σ) : dZ body k i (x :: l) s = body i x s (dZ body k (i + 1) l) := rfl
theorem Gy {σ ρ : Type} {body : Int → σ → (σ → ρ) → ρ} {k : σ → ρ} (i : Int) (m : Nat) (s : σ) : upto body k i (m + 1) s = body i s (upto body k (i + 1) m) := rfl
theorem EB {σ β : Type} {body : σ → (σ → Option β) → Option β} {m : Nat} {s : σ} : again body (m + 1) s = body s (again body m) := rfl
def jI (n : Nat) (v : Val) : Prop := (v.kind = 0 ∧ v.n = 0) ∨ (v.kind = 1 ∧ -1000000000 ≤ v.n ∧ v.n ≤ 1000000000) ∨ (v.kind = 2 ∧ 0 ≤ v.n ∧ v.n < n)
instance (n : Nat) (v : Val) : Decidable (jI n v) := inferInstanceAs (Decidable (_ ∨ _))
theorem FW (n : Nat) (v : Val) : eF v (n : Int) = 0 ↔ jI n v := by
  obtain ⟨k, m⟩ := v
  simp only [eF, jI, Bool.cond_eq_ite, Bool.or_eq_true, decide_eq_true_eq]
  constructor
  · intro h
    (repeat' split at h) <;> first | omega | (exfalso; omega)
  · intro h
    rcases h with ⟨h1, h2⟩ | ⟨h1, h2⟩ | ⟨h1, h2⟩
    · rw [if_pos h1, if_neg (by omega)]
    · rw [if_neg (by omega), if_pos h1, if_neg (by omega)]
    · rw [if_neg (by omega), if_neg (by omega), if_pos h1, if_neg (by omega)]
theorem Tj (v : Val) (n : Int) : bW v n = eF v n := by
  obtain ⟨k, m⟩ := v
  simp only [eF, bW, mr, aO, dW, aJ, Bool.cond_eq_ite, Bool.or_eq_true, Bool.and_eq_true, Bool.not_eq_true', decide_eq_true_eq, decide_eq_false_iff_not, Bool.and_eq_false_iff]
  (repeat' split) <;> first | rfl | (exfalso; omega)
def oO (l : List (List Val)) : Prop := l.length ≤ 24 ∧ ∀ c ∈ l, (1 ≤ c.length ∧ c.length ≤ 4) ∧ ∀ v ∈ c, jI l.length v
theorem Tk (a : List (List Val)) : gK a = gp a := by
  unfold gK gp
  have k1 : ∀ (l : List Val) (f : Unit → Int), each (jg a) (jh f) l () = each (jR a) (jo f) l () := by
    intro l f
    induction l with
    | nil => rfl
    | cons x l ih =>
      show (bif decide ((bW x (a.length : Int) : Int) ≠ 0) then bW x (a.length : Int) else each (jg a) (jh f) l ()) = (bif decide ((eF x (a.length : Int) : Int) ≠ 0) then eF x (a.length : Int) else each (jR a) (jo f) l ())
      rw [Tj, ih]
  have k2 : ∀ l : List (List Val), each (ji a) jk l () = each (kP a) jS l () := by
    intro l
    induction l with
    | nil => rfl
    | cons x l ih =>
      show (bif (!(aO (x.length : Int) 1 4)) then 2 else each (jg a) (jh (each (ji a) jk l)) x ()) = (bif (decide (((x.length : Int) : Int) = 0) || decide ((4 : Int) < (x.length : Int))) then 2 else each (jR a) (jo (each (kP a) jS l)) x ())
      have e : (!(aO (x.length : Int) 1 4)) = (decide (((x.length : Int) : Int) = 0) || decide ((4 : Int) < (x.length : Int))) := by
        unfold aO; rw [Bool.eq_iff_iff]; simp only [Bool.or_eq_true, Bool.not_eq_true', Bool.and_eq_false_iff, decide_eq_true_eq, decide_eq_false_iff_not]; omega
      rw [e, k1]
      have : each (ji a) jk l = each (kP a) jS l := by funext u; exact ih
      rw [this]
  rw [k2]
theorem Vm (a : List (List Val)) : gp a = 0 ↔ oO a := by
  have k1 : ∀ (l : List Val) (f : Unit → Int), each (jR a) (jo f) l () = 0 ↔ (∀ v ∈ l, jI a.length v) ∧ f () = 0 := by
    intro l f
    induction l with
    | nil => simp [fO, jo]
    | cons x l ih =>
      show (bif decide ((eF x (a.length : Int) : Int) ≠ 0) then eF x (a.length : Int) else each (jR a) (jo f) l ()) = 0 ↔ _
      by_cases h : eF x (a.length : Int) = 0
      · rw [dF (by omega), cond_false, ih]
        have := (FW _ _).1 h
        simp [this]
      · rw [dT h, cond_true]
        have h2 : ¬ jI a.length x := fun e => h ((FW _ _).2 e)
        simp [h, h2]
  have k2 : ∀ l : List (List Val), each (kP a) jS l () = 0 ↔ ∀ c ∈ l, (1 ≤ c.length ∧ c.length ≤ 4) ∧ ∀ v ∈ c, jI a.length v := by
    intro l
    induction l with
    | nil => simp [fO, jS]
    | cons x l ih =>
      show (bif (decide (((x.length : Int) : Int) = 0) || decide ((4 : Int) < (x.length : Int))) then 2 else each (jR a) (jo (each (kP a) jS l)) x ()) = 0 ↔ _
      by_cases h : 1 ≤ x.length ∧ x.length ≤ 4
      · rw [show (decide (((x.length : Int) : Int) = 0) || decide ((4 : Int) < (x.length : Int))) = false by simp only [Bool.or_eq_false_iff, decide_eq_false_iff_not]; omega, cond_false, k1, ih]
        simp [h]
      · rw [show (decide (((x.length : Int) : Int) = 0) || decide ((4 : Int) < (x.length : Int))) = true by simp only [Bool.or_eq_true, decide_eq_true_eq]; omega, cond_true]
        simp [h]
  unfold gp oO
  by_cases h : a.length ≤ 24
  · rw [dF (by omega), cond_false, k2]; simp [h]
  · rw [dT (by omega), cond_true]; simp [h]
structure CE (a : List bX) (n : Nat) (f : LX.Frame) (x : bX) : Prop where
  proc : idx a f.proc = some x
  at_ : 0 ≤ f.at_ ∧ f.at_ < x.code.length
  regs : (f.regs.length : Int) = x.regs
  vals : ∀ v ∈ f.regs, jI n v
def l8 (a : List bX) (n : Nat) : Int → List LX.Frame → Prop
  | _, [] => True
  | ahead, f :: l => (∃ x, CE a n f x) ∧ (0 ≤ f.kD ∧ f.kD < ahead) ∧ l8 a n f.regs.length l
structure Ag (a : List bX) (s : LX.State) : Prop where
  status : 0 ≤ s.status ∧ s.status ≤ 3
  aK : -1000000000 ≤ s.aK ∧ s.aK ≤ 1000000000
  stay : s.status ≠ 3 → s.aK = 0
  ended : s.status = 1 ↔ s.frames = []
  many : s.frames.length ≤ 10
  cells : oO s.cells
  frames : l8 a s.cells.length 1 s.frames
end Go.Proofs.YtfclkapelkhlpaaGreatDoor
namespace Go.Proofs.YtfclkapelkhlpaaGreatDoor
open Go Go.Proofs Go.LX
def ahead (pre : List LX.Frame) : Int := match pre.getLast? with | none => 1 | some f => f.regs.length
theorem PG : ahead [] = 1 := rfl
theorem EC (pre : List LX.Frame) (f : LX.Frame) : ahead (pre ++ [f]) = f.regs.length := by simp [ahead]
theorem KR (b : LX.State) (f : LX.Frame) (n1 : Unit → Option Int) (n2 : Int → Option Int) (hn : n1 () = n2 f.regs.length) : ∀ l : List Val, each (qY b) (qZ n1) l () = each (kz b) (kC n2 f) l ()
  | [] => hn
  | x :: l => by
    show (bif decide ((eF x (b.cells.length : Int) : Int) ≠ 0) then some (eF x (b.cells.length : Int)) else each (qY b) (qZ n1) l ()) = (bif decide ((bW x (b.cells.length : Int) : Int) ≠ 0) then some (bW x (b.cells.length : Int)) else each (kz b) (kC n2 f) l ())
    rw [Tj, KR b f n1 n2 hn l]
theorem Tm (b : LX.State) (n1 : Unit → Option Int) (Q : Prop) (hn : ∃ y, n1 () = some y ∧ (y = 0 ↔ Q)) : ∀ l : List Val, ∃ y, each (qY b) (qZ n1) l () = some y ∧ (y = 0 ↔ (∀ v ∈ l, jI b.cells.length v) ∧ Q)
  | [] => by obtain ⟨y, h1, h2⟩ := hn; exact ⟨y, h1, by simp [h2]⟩
  | x :: l => by
    obtain ⟨y, h1, h2⟩ := Tm b n1 Q hn l
    have e : each (qY b) (qZ n1) (x :: l) () = (bif decide ((eF x (b.cells.length : Int) : Int) ≠ 0) then some (eF x (b.cells.length : Int)) else each (qY b) (qZ n1) l ()) := rfl
    rw [e]
    by_cases h : eF x (b.cells.length : Int) = 0
    · rw [dF (by omega), cond_false]
      have := (FW _ _).1 h
      exact ⟨y, h1, by rw [h2]; simp [this]⟩
    · rw [dT h, cond_true]
      refine ⟨_, rfl, ?_⟩
      have h3 : ¬ jI b.cells.length x := fun e => h ((FW _ _).2 e)
      simp [h, h3]
theorem Lh (a : List bX) (b : LX.State) (hm : b.frames.length ≤ 10) : ∀ (l pre : List LX.Frame), b.frames = pre ++ l →
    dZ (vO a b) yh (pre.length : Int) l () = each (fP a b) iy l (ahead pre)
  | [], pre, h => rfl
  | f :: l, pre, h => by
    have ih := Lh a b hm l (pre ++ [f]) (by simpa using h)
    rw [EC] at ih
    have hi : (((pre ++ [f]).length : Nat) : Int) = (pre.length : Int) + 1 := by simp
    rw [hi] at ih
    rw [iQ, dU]
    generalize dZ (vO a b) yh ((pre.length : Int) + 1) l = K1 at ih ⊢
    generalize each (fP a b) iy l = K2 at ih ⊢
    unfold vO fP
    have hl : pre.length ≤ 10 := by have := congrArg List.length h; simp at this; omega
    have e1 : (decide ((f.proc : Int) < 0) || decide (((a.length : Int) : Int) ≤ f.proc)) = !aJ f.proc (a.length : Int) := mM _ _
    rw [e1]
    cases hp : aJ f.proc (a.length : Int) with
    | false => rfl
    | true =>
      simp only [Bool.not_true, cond_false]
      cases hx : idx a f.proc with
      | none => rfl
      | some x =>
        simp only [bnd]
        cases ha : aJ f.at_ (x.code.length : Int) with
        | false =>
          rw [show (((decide ((f.at_ : Int) < 0) || decide (((x.code.length : Int) : Int) ≤ f.at_)) || decide ((f.kD : Int) < 0)) || (decide ((pre.length : Int) = 0) && decide ((f.kD : Int) ≠ 0))) = true by
            have := mM f.at_ (x.code.length : Int)
            rw [ha] at this
            rw [this]; rfl]
          rfl
        | true =>
          have h3 := mM f.at_ (x.code.length : Int)
          rw [ha] at h3
          rw [h3]
          simp only [Bool.not_true, Bool.false_or, cond_false]
          have key : ∀ t, vN f x b K1 t = iw a f b K2 t := by
            intro t
            unfold vN iw
            rw [hx, bnd, KR b f _ _ ih]
          simp only [key]
          rcases List.eq_nil_or_concat pre with rfl | ⟨q, g, rfl⟩
          · rw [PG]
            by_cases ht : f.kD = 0
            · rw [show (decide ((f.kD : Int) < 0) || (decide ((([] : List LX.Frame).length : Int) = 0) && decide ((f.kD : Int) ≠ 0))) = false by simp [ht], cond_false, dF (by simp), cond_false, show (!aJ f.kD 1) = false by simp [ht, aJ]]
            · rw [show (decide ((f.kD : Int) < 0) || (decide ((([] : List LX.Frame).length : Int) = 0) && decide ((f.kD : Int) ≠ 0))) = true by simp [ht], cond_true, show (!aJ f.kD 1) = true by simp [aJ]; omega]
          · rw [List.concat_eq_append] at *
            rw [EC]
            have hlen : ((q ++ [g]).length : Int) = (q.length : Int) + 1 := by simp
            rw [hlen, show (decide ((q.length : Int) + 1 = 0)) = false from dF (by omega), Bool.false_and, Bool.or_false]
            by_cases ht : f.kD < 0
            · rw [dT ht, cond_true, show (!aJ f.kD (g.regs.length : Int)) = true by simp [aJ]; omega]
            · rw [dF ht, cond_false, dT (by omega), cond_true, gI (by omega) (by simp at hl; omega), show (q.length : Int) + 1 - 1 = ((q.length : Nat) : Int) by omega, rP, h]
              simp only [List.append_assoc, List.getElem?_append_right (Nat.le_refl _), Nat.sub_self, List.cons_append, List.nil_append, List.getElem?_cons_zero, bnd]
              congr 1
              rw [Bool.eq_iff_iff]; simp [aJ]; omega
theorem FX (a : List bX) (b : LX.State) : Bh a b = kF a b := by
  unfold Bh kF
  have e1 : (((decide ((b.status : Int) < 0) || decide ((3 : Int) < b.status)) || decide ((b.aK : Int) < -1000000000)) || decide ((1000000000 : Int) < b.aK)) = ((!(aO b.status 0 3)) || (!(dW b.aK))) := by
    unfold dW aO; rw [Bool.eq_iff_iff]; simp only [Bool.or_eq_true, Bool.not_eq_true', Bool.and_eq_false_iff, decide_eq_true_eq, decide_eq_false_iff_not]; omega
  have e2 : ((decide ((b.status : Int) ≠ 3) && decide ((b.aK : Int) ≠ 0)) || (decide ((b.status : Int) = 1) != decide (((b.frames.length : Int) : Int) = 0))) = (((decide ((b.aK : Int) ≠ 0) && decide ((b.status : Int) ≠ 3)) || (decide ((b.status : Int) = 1) && decide ((0 : Int) < (b.frames.length : Int)))) || (decide ((b.status : Int) ≠ 1) && decide (((b.frames.length : Int) : Int) = 0))) := by
    by_cases h1 : b.status = 1 <;> by_cases h2 : b.frames.length = 0 <;> by_cases h3 : b.status = 3 <;> by_cases h4 : b.aK = 0 <;> simp [h1, h2, h3, h4] <;> omega
  rw [e1, e2, Tk]
  by_cases h : b.frames.length ≤ 10
  · have := Lh a b h b.frames [] rfl
    rw [PG] at this
    rw [← this]; rfl
  · rw [show (decide ((10 : Int) < (b.frames.length : Int))) = true from dT (by omega)]
    rfl
theorem NR (a : List bX) (b : LX.State) : ∀ (l : List LX.Frame) (t : Int), ∃ y, each (fP a b) iy l t = some y ∧ (y = 0 ↔ l8 a b.cells.length t l)
  | [], t => ⟨0, rfl, by simp [l8]⟩
  | f :: l, t => by
    obtain ⟨y, h1, h2⟩ := NR a b l f.regs.length
    rw [dU]
    generalize each (fP a b) iy l = K2 at h1 ⊢
    unfold fP
    cases hp : aJ f.proc (a.length : Int) with
    | false =>
      refine ⟨5, rfl, ?_⟩
      have : ¬ l8 a b.cells.length t (f :: l) := by
        rintro ⟨⟨x, g⟩, -, -⟩
        have := aC g.proc
        have h3 := (List.getElem?_eq_some_iff.1 this.2).1
        unfold aJ at hp
        simp only [Bool.and_eq_false_iff, decide_eq_false_iff_not] at hp
        omega
      simp [this]
    | true =>
      unfold aJ at hp
      simp only [Bool.and_eq_true, decide_eq_true_eq] at hp
      simp only [Bool.not_true, cond_false]
      obtain ⟨n, hn⟩ := Int.eq_ofNat_of_zero_le hp.1
      have hx : idx a f.proc = some (a[n]'(by omega)) := by rw [hn, xM (by omega)]
      generalize a[n]'(by omega) = x at hx
      rw [hx, bnd]
      have kB : ∃ y, iw a f b K2 true = some y ∧ y ≠ 0 := ⟨3, rfl, by decide⟩
      have uniq : ∀ z, CE a b.cells.length f z → z = x := fun z g => by have := g.proc; rw [hx] at this; exact (fM this).symm
      cases ha : aJ f.at_ (x.code.length : Int) with
      | false =>
        obtain ⟨y, g1, g2⟩ := kB
        refine ⟨y, g1, ?_⟩
        have : ¬ l8 a b.cells.length t (f :: l) := by
          rintro ⟨⟨z, g⟩, -, -⟩
          have := uniq z g; subst this
          have := g.at_
          unfold aJ at ha
          simp only [Bool.and_eq_false_iff, decide_eq_false_iff_not] at ha
          omega
        simp [this, g2]
      | true =>
        simp only [Bool.not_true, cond_false]
        cases ht : aJ f.kD t with
        | false =>
          obtain ⟨y, g1, g2⟩ := kB
          refine ⟨y, g1, ?_⟩
          have : ¬ l8 a b.cells.length t (f :: l) := by
            rintro ⟨⟨z, g⟩, h3, -⟩
            unfold aJ at ht
            simp only [Bool.and_eq_false_iff, decide_eq_false_iff_not] at ht
            omega
          simp [this, g2]
        | true =>
          simp only [Bool.not_true]
          unfold iw
          rw [hx, cond_false, bnd]
          unfold aJ at ha ht
          simp only [Bool.and_eq_true, decide_eq_true_eq] at ha ht
          by_cases hr : (f.regs.length : Int) = x.regs
          · rw [dF (by omega), cond_false, ← KR b f (fun _ => K2 f.regs.length) _ rfl]
            obtain ⟨z, g1, g2⟩ := Tm b (fun _ => K2 f.regs.length) _ ⟨y, h1, h2⟩ f.regs
            refine ⟨z, g1, g2.trans ⟨fun h => ⟨⟨x, hx, ha, hr, h.1⟩, ht, h.2⟩, ?_⟩⟩
            rintro ⟨⟨z, g⟩, h3, h4⟩
            exact ⟨g.vals, h4⟩
          · rw [dT (by omega), cond_true]
            refine ⟨4, rfl, ?_⟩
            have : ¬ l8 a b.cells.length t (f :: l) := by
              rintro ⟨⟨z, g⟩, -, -⟩
              have := uniq z g; subst this
              exact hr g.regs
            simp [this]
theorem NS (a : List bX) (b : LX.State) : ∃ y, Bh a b = some y ∧ (y = 0 ↔ Ag a b) := by
  rw [FX]
  unfold kF
  cases c1 : ((!(aO b.status 0 3)) || (!(dW b.aK))) with
  | true =>
    refine ⟨3, rfl, ⟨fun h => absurd h (by decide), fun h => ?_⟩⟩
    unfold dW aO at c1
    simp only [Bool.or_eq_true, Bool.not_eq_true', Bool.and_eq_false_iff, decide_eq_false_iff_not] at c1
    have := h.status; have := h.aK; omega
  | false =>
    unfold dW aO at c1
    simp only [Bool.or_eq_false_iff, Bool.not_eq_false', Bool.and_eq_true, decide_eq_true_eq] at c1
    rw [cond_false]
    cases c2 : (((decide ((b.aK : Int) ≠ 0) && decide ((b.status : Int) ≠ 3)) || (decide ((b.status : Int) = 1) && decide ((0 : Int) < (b.frames.length : Int)))) || (decide ((b.status : Int) ≠ 1) && decide (((b.frames.length : Int) : Int) = 0))) with
    | true =>
      refine ⟨4, rfl, ⟨fun h => absurd h (by decide), fun h => ?_⟩⟩
      simp only [Bool.or_eq_true, Bool.and_eq_true, decide_eq_true_eq] at c2
      rcases c2 with (c2 | c2) | c2
      · exact absurd (h.stay c2.2) c2.1
      · have := h.ended.1 c2.1; rw [this] at c2; simp at c2
      · exact absurd (h.ended.2 (List.eq_nil_of_length_eq_zero (by omega))) c2.1
    | false =>
      simp only [Bool.or_eq_false_iff, Bool.and_eq_false_iff, decide_eq_false_iff_not] at c2
      rw [cond_false]
      by_cases hm : b.frames.length ≤ 10
      · rw [dF (by omega), cond_false, Tk]
        by_cases hc : gp b.cells = 0
        · rw [dF (by omega), cond_false]
          obtain ⟨y, h1, h2⟩ := NR a b b.frames 1
          refine ⟨y, h1, h2.trans ⟨fun h => ⟨by omega, by omega, fun h3 => by omega, ⟨fun h3 => ?_, fun h3 => ?_⟩, hm, (Vm _).1 hc, h⟩, fun h => h.frames⟩⟩
          · exact List.eq_nil_of_length_eq_zero (by omega)
          · rw [h3] at c2; simp at c2; omega
        · rw [dT hc, cond_true]
          exact ⟨_, rfl, ⟨fun h => absurd h hc, fun h => absurd ((Vm _).2 h.cells) hc⟩⟩
      · rw [dT (by omega), cond_true]
        exact ⟨2, rfl, ⟨fun h => absurd h (by decide), fun h => absurd h.many hm⟩⟩
def YP (a : List bX) (s : LX.State) : Int := (Bh a s).getD 0
theorem ckS_eq (a : List bX) (s : LX.State) : Bh a s = some (YP a s) := by obtain ⟨y, h, -⟩ := NS a s; unfold YP; rw [h]; rfl
theorem ckS_eq2 (a : List bX) (s : LX.State) : kF a s = some (YP a s) := by rw [← FX, ckS_eq]
theorem Vn {a : List bX} {s : LX.State} : YP a s = 0 ↔ Ag a s := by obtain ⟨y, h, h2⟩ := NS a s; unfold YP; rw [h]; exact h2
theorem Cj (a : List bX) (s : LX.State) : Bi a s = some (if Ti a ≠ 0 then Ti a else YP a s) := by
  unfold Bi
  rw [Q0, bnd]
  by_cases h : Ti a = 0
  · rw [dF (by omega), cond_false, ckS_eq, bnd, if_neg (by omega)]
  · rw [dT h, cond_true, if_pos h]
end Go.Proofs.YtfclkapelkhlpaaGreatDoor
namespace Go.Proofs.YtfclkapelkhlpaaGreatDoor
open Go Go.Proofs Go.LX
theorem Vo (a b : List Val) : ky a b = some (decide (a = b)) := by
  unfold ky
  by_cases h : a.length = b.length
  · rw [dF (by omega)]
    simp only [cond_false, Int.toNat_natCast]
    rw [JF (fun x y => decide (x = y)) a b h rfl (fun i x y nx h1 h2 => by
      unfold qm
      rw [rP, rP, h1, h2]
      obtain ⟨k, n⟩ := x; obtain ⟨k2, n2⟩ := y
      by_cases e : k = k2 <;> by_cases e2 : n = n2 <;> simp [e, e2]), F8 (fun _ _ => rfl)]
  · rw [dT (by omega)]
    have : a ≠ b := fun e => h (by rw [e])
    rw [dF this]; rfl
theorem Wq (a b : List (List Val)) : Gs a b = some (decide (a = b)) := by
  unfold Gs
  by_cases h : a.length = b.length
  · rw [dF (by omega), cond_false, Mq (fun x y => decide (x = y)) a b h rfl (fun i x y nx h2 => by
      unfold AP
      rw [rP, h2, bnd, Vo, bnd]
      by_cases e : x = y <;> simp [e]), F8 (fun _ _ => rfl)]
  · rw [dT (by omega)]
    have : a ≠ b := fun e => h (by rw [e])
    rw [dF this]; rfl
theorem eqCells2 (a b : List (List Val)) : qo a b = some (decide (a = b)) := by
  unfold qo
  by_cases h : a.length = b.length
  · rw [dF (by omega)]
    simp only [cond_false, Int.toNat_natCast]
    rw [JF (fun x y => decide (x = y)) a b h rfl (fun i x y nx h1 h2 => by
      unfold nu
      rw [rP, rP, h1, h2, bnd, bnd, Vo, bnd]
      by_cases e : x = y <;> simp [e]), F8 (fun _ _ => rfl)]
  · rw [dT (by omega)]
    have : a ≠ b := fun e => h (by rw [e])
    rw [dF this]; rfl
theorem fr_eq (x y : LX.Frame) (nx : Unit → Option Bool) : (bif ((decide ((x.proc : Int) = y.proc) && decide ((x.at_ : Int) = y.at_)) && decide ((x.kD : Int) = y.kD)) then (ky x.regs y.regs).bind fun y39 => xB nx (!y39) else xB nx true) = bif decide (x = y) then nx () else some false := by
  obtain ⟨p, t, r, o⟩ := x; obtain ⟨p2, t2, r2, o2⟩ := y
  simp only [Vo, bnd, xB]
  by_cases e1 : p = p2 <;> by_cases e2 : t = t2 <;> by_cases e3 : r = r2 <;> by_cases e4 : o = o2 <;> simp [e1, e2, e3, e4]
theorem st_eq (a b : LX.State) : decide (a = b) = ((decide (a.status = b.status) && decide (a.aK = b.aK)) && (decide (a.cells = b.cells) && decide (a.frames = b.frames))) := by
  obtain ⟨f, c, s, w⟩ := a; obtain ⟨f2, c2, s2, w2⟩ := b
  rw [Bool.eq_iff_iff]; simp; constructor <;> (intro h; simp [h])
theorem Ws (a b : LX.State) : Jk a b = some (decide (a = b)) := by
  rw [st_eq]
  unfold Jk
  cases (decide ((a.status : Int) = b.status) && decide ((a.aK : Int) = b.aK)) with
  | false => rfl
  | true =>
    rw [cond_true, Wq, bnd]
    cases decide (a.cells = b.cells) with
    | false => rfl
    | true =>
      rw [cond_true]
      by_cases h : a.frames.length = b.frames.length
      · rw [dF (by omega), cond_false, Mq (fun x y => decide (x = y)) a.frames b.frames h rfl (fun i x y nx h2 => by
          unfold Cf
          rw [rP, h2, bnd]
          exact fr_eq x y nx), F8 (fun _ _ => rfl)]; rfl
      · rw [dT (by omega)]
        have : a.frames ≠ b.frames := fun e => h (by rw [e])
        rw [dF this]; rfl
theorem Tn (a b : LX.State) : eQ a b = some (decide (a = b)) := by
  rw [← Ws]
  unfold eQ Jk
  rw [Wq, eqCells2]
  rfl
structure Small (s : LX.State) : Prop where
  frames : s.frames.length ≤ 10
  regs : ∀ f ∈ s.frames, f.regs.length ≤ 40
  cells : s.cells.length ≤ 24
  fields : ∀ c ∈ s.cells, c.length ≤ 4
theorem yx {a : List bX} {n : Nat} : ∀ {l : List LX.Frame} {t : Int}, l8 a n t l → ∀ f ∈ l, ∃ x, CE a n f x
  | [], _, _, f, hf => by cases hf
  | g :: l, t, h, f, hf => by
    rcases List.mem_cons.1 hf with rfl | hf
    · exact h.1
    · exact yx h.2.2 f hf
theorem nL.mem {a : List bX} (h : nL a) {k : Int} {x : bX} (hx : idx a k = some x) : x ∈ a ∧ (0 ≤ x.params ∧ x.params ≤ 3) ∧ (1 ≤ x.regs ∧ x.params ≤ x.regs ∧ x.regs ≤ 40) ∧ uL x := by
  have h1 := (aC hx).2
  have := h.head _ x h1
  exact ⟨List.mem_of_getElem? h1, this.1, this.2.1, this.2.2.2⟩
theorem Ag.small {a : List bX} {s : LX.State} (h : Ag a s) (ha : nL a) : Small s where
  frames := h.many
  regs f hf := by
    obtain ⟨x, g⟩ := yx h.frames f hf
    have := (ha.mem g.proc).2.2.1
    have := g.regs
    omega
  cells := h.cells.1
  fields c hc := (h.cells.2 c hc).1.2
theorem Jv {α : Type} {bytes : Nat} {a : List α} (h : a.length ≤ 400) (hb : bytes ≤ 48) : clone bytes a = some a := by
  have : a.length * bytes ≤ 400 * 48 := Nat.mul_le_mul h hb
  unfold clone
  exact qy ⟨by simp; omega, by simp; omega⟩
theorem KS {ρ : Type} {body : Int → Unit → (Unit → ρ) → ρ} {k : Unit → ρ} : ∀ (m : Nat) (i : Nat), (∀ j : Nat, i ≤ j → j < i + m → ∀ nx, body (j : Int) () nx = nx ()) → upto body k (i : Int) m () = k ()
  | 0, i, _ => rfl
  | m + 1, i, h => by
    rw [Gy, h i (Nat.le_refl _) (by omega), show ((i : Int) + 1) = ((i + 1 : Nat) : Int) by omega]
    exact KS m (i + 1) (fun j h1 h2 => h j (by omega) (by omega))
theorem Tp {l : List (List Val)} (h : l.length ≤ 24) (hf : ∀ c ∈ l, c.length ≤ 4) : Gi l = some l := by
  unfold Gi
  rw [Jv (by omega) (by decide), bnd, Int.toNat_natCast]
  exact KS (k := AA l) l.length 0 (fun j h1 h2 nx => by
    unfold Az
    rw [xM (by omega), bnd, Jv (by have := hf _ (List.getElem_mem (by omega : j < l.length)); omega) (by decide), bnd])
theorem copy_eq {s : LX.State} (h : Small s) : Ep s = some s := by
  unfold Ep
  rw [Jv (by have := h.frames; omega) (by decide), bnd, Tp h.cells h.fields, bnd]
  unfold Hr
  rw [Int.toNat_natCast]
  exact KS (k := Eo s s.cells) s.frames.length 0 (fun j h1 h2 nx => by
    unfold En
    rw [xM (by omega), bnd, Jv (by have := h.regs _ (List.getElem_mem (by omega : j < s.frames.length)); omega) (by decide), bnd])
theorem room_le {α : Type} {bytes : Nat} {l m : List α} (h : l.length + m.length ≤ 100000) (hb : bytes ≤ 48) : Room bytes l m := by
  have : (l.length + m.length) * bytes ≤ 100000 * 48 := Nat.mul_le_mul h hb
  exact ⟨by omega, by omega⟩
theorem PH (fr : List LX.Frame) (s : LX.State) : ∀ (l acc : List (List Val)), (∀ c ∈ l, c.length ≤ 4) → acc.length + l.length ≤ 24 → each jT (lF fr s) l acc = some ⟨fr, acc ++ l, s.status, s.aK⟩
  | [], acc, _, _ => by simp [fO, lF]
  | x :: l, acc, h, hl => by
    rw [dU]
    unfold jT
    have := h x (by simp)
    simp only [List.length_cons] at hl
    rw [qy (room_le (by simp; omega) (by decide)), qy (room_le (by simp; omega) (by decide))]
    have ih := PH fr s l (acc ++ [([] : List Val) ++ x]) (fun c hc => h c (List.mem_cons_of_mem _ hc)) (by simp; omega)
    have e : jT = fun X6 zX MM => iK (Room 16 ([] : List Val) X6) (iK (Room 24 zX [(([] : List Val) ++ X6)]) (MM (zX ++ [(([] : List Val) ++ X6)]))) := rfl
    rw [← e, ih]
    simp
theorem NT (s : LX.State) (hc : s.cells.length ≤ 24 ∧ ∀ c ∈ s.cells, c.length ≤ 4) : ∀ (l acc : List LX.Frame), (∀ f ∈ l, f.regs.length ≤ 40) → acc.length + l.length ≤ 10 → each jU (jV s) l acc = some ⟨acc ++ l, s.cells, s.status, s.aK⟩
  | [], acc, _, _ => by
    rw [fO, jV, PH _ _ _ _ hc.2 (by simp; omega)]; simp
  | x :: l, acc, h, hl => by
    rw [dU]
    have := h x (by simp)
    simp only [List.length_cons] at hl
    have ih := NT s hc l (acc ++ [⟨x.proc, x.at_, ([] : List Val) ++ x.regs, x.kD⟩]) (fun c hc => h c (List.mem_cons_of_mem _ hc)) (by simp; omega)
    generalize each jU (jV s) l = K at ih ⊢
    unfold jU
    rw [qy (room_le (by simp; omega) (by decide)), qy (room_le (by simp; omega) (by decide)), ih]
    simp
theorem Vp {s : LX.State} (h : Small s) : lG s = some s := by
  unfold lG
  rw [NT s ⟨h.cells, h.fields⟩ s.frames [] h.regs (by simpa using h.frames)]; simp
end Go.Proofs.YtfclkapelkhlpaaGreatDoor
namespace Go.Proofs.YtfclkapelkhlpaaGreatDoor
open Go Go.Proofs Go.LX
def NU (l : List Int) (v : Val) : List Int := if v.kind = 2 ∧ v.n ∉ l then l ++ [v.n] else l
def LJ (l : List Int) (vs : List Val) : List Int := vs.foldl NU l
def cellAt (cells : List (List Val)) (k : Int) : List Val := (idx cells k).getD []
def TJ (cells : List (List Val)) : Nat → Nat → List Int → List Int
  | 0, _, l => l
  | m + 1, k, l => if h : k < l.length then TJ cells m (k + 1) (LJ l (cellAt cells l[k])) else l
def ED (cells : List (List Val)) (vs : List Val) : List Int := TJ cells 25 0 (LJ [] vs)
theorem KT (l : List Int) (v : Val) (vs : List Val) : LJ l (v :: vs) = LJ (NU l v) vs := rfl
theorem metV_pre (l : List Int) (v : Val) : l <+: NU l v := by
  unfold NU; split
  · exact List.prefix_append _ _
  · exact List.prefix_refl _
theorem DU : ∀ (vs : List Val) (l : List Int), l <+: LJ l vs
  | [], l => List.prefix_refl _
  | v :: vs, l => (metV_pre l v).trans (DU vs _)
theorem Wt (cells : List (List Val)) : ∀ (m k : Nat) (l : List Int), l <+: TJ cells m k l
  | 0, _, l => List.prefix_refl _
  | m + 1, k, l => by
    unfold TJ; split
    · exact (DU _ _).trans (Wt cells m _ _)
    · exact List.prefix_refl _
theorem PI : ∀ (n : Nat) (l : List Int), l.Nodup → (∀ x ∈ l, 0 ≤ x ∧ x < n) → l.length ≤ n
  | 0, l, _, h => by
    cases l with
    | nil => simp
    | cons x l => have := h x (by simp); omega
  | n + 1, l, hn, h => by
    have h1 := PI n (l.erase (n : Int)) (hn.erase _) (fun x hx => by
      have h2 := (hn.mem_erase_iff).1 hx
      have := h x h2.2
      have h3 := h2.1
      constructor
      · omega
      · push_cast at this; omega)
    have h4 : l.length ≤ (l.erase (n : Int)).length + 1 := by rw [List.length_erase]; split <;> omega
    omega
def sN (n : Nat) (l : List Int) : Prop := l.Nodup ∧ ∀ x ∈ l, 0 ≤ x ∧ x < n
theorem sN.len {n : Nat} {l : List Int} (h : sN n l) : l.length ≤ n := PI n l h.1 h.2
theorem sN.nil {n : Nat} : sN n [] := ⟨List.nodup_nil, fun x hx => by cases hx⟩
theorem jI.ref {n : Nat} {v : Val} (h : jI n v) (hk : v.kind = 2) : 0 ≤ v.n ∧ v.n < n := by unfold jI at h; omega
theorem sN.v {n : Nat} {l : List Int} (h : sN n l) {v : Val} (hv : jI n v) : sN n (NU l v) := by
  unfold NU; split
  · rename_i hc
    refine ⟨List.nodup_append.2 ⟨h.1, by simp, fun a ha b hb => ?_⟩, fun x hx => ?_⟩
    · simp at hb; subst hb; intro e; subst e; exact hc.2 ha
    · rcases List.mem_append.1 hx with hx | hx
      · exact h.2 x hx
      · simp at hx; subst hx; exact hv.ref hc.1
  · exact h
theorem sN.l {n : Nat} : ∀ {vs : List Val} {l : List Int}, sN n l → (∀ v ∈ vs, jI n v) → sN n (LJ l vs)
  | [], l, h, _ => h
  | v :: vs, l, h, hv => sN.l (vs := vs) (l := NU l v) (h.v (hv v (by simp))) (fun w hw => hv w (List.mem_cons_of_mem _ hw))
theorem yZ {cells : List (List Val)} {k : Int} (h : 0 ≤ k ∧ k < cells.length) : idx cells k = some (cellAt cells k) ∧ cellAt cells k ∈ cells := by
  obtain ⟨n, rfl⟩ := Int.eq_ofNat_of_zero_le h.1
  unfold cellAt
  rw [xM (by omega)]
  exact ⟨rfl, List.getElem_mem _⟩
theorem oO.at {cells : List (List Val)} (h : oO cells) {k : Int} (hk : 0 ≤ k ∧ k < cells.length) : (1 ≤ (cellAt cells k).length ∧ (cellAt cells k).length ≤ 4) ∧ ∀ v ∈ cellAt cells k, jI cells.length v := h.2 _ (yZ hk).2
theorem sN.TJ {cells : List (List Val)} (hc : oO cells) : ∀ {m k : Nat} {l : List Int}, sN cells.length l → sN cells.length (TJ cells m k l)
  | 0, _, l, h => h
  | m + 1, k, l, h => by
    unfold Proofs.YtfclkapelkhlpaaGreatDoor.TJ; split
    · rename_i hk
      exact sN.TJ hc (h.l (hc.at (h.2 _ (List.getElem_mem hk))).2)
    · exact h
def oP (vs : List Val) (l : List Int) : Prop := ∀ v ∈ vs, v.kind = 2 → v.n ∈ l
theorem oP.pre {vs : List Val} {l m : List Int} (h : oP vs l) (hp : l <+: m) : oP vs m := fun v hv hk => hp.subset (h v hv hk)
theorem metV_in (l : List Int) (v : Val) (hk : v.kind = 2) : v.n ∈ NU l v := by
  unfold NU; split
  · simp
  · rename_i hc
    exact Decidable.not_not.1 (fun h => hc ⟨hk, h⟩)
theorem Q3 : ∀ (vs : List Val) (l : List Int), oP vs (LJ l vs)
  | [], l, v, hv, _ => by cases hv
  | w :: vs, l, v, hv, hk => by
    rw [KT]
    rcases List.mem_cons.1 hv with rfl | hv
    · exact (DU vs _).subset (metV_in l v hk)
    · exact Q3 vs _ v hv hk
theorem bfs_in {cells : List (List Val)} (hc : oO cells) : ∀ {m k : Nat} {l : List Int}, sN cells.length l → cells.length < k + m → (∀ j (hj : j < l.length), j < k → oP (cellAt cells l[j]) l) → ∀ x ∈ TJ cells m k l, oP (cellAt cells x) (TJ cells m k l)
  | 0, k, l, h, hm, hj, x, hx => by
    have := h.len
    obtain ⟨j, h1, rfl⟩ := List.getElem_of_mem hx
    exact hj j h1 (by have h1' : j < l.length := h1; omega)
  | m + 1, k, l, h, hm, hj, x, hx => by
    unfold Proofs.YtfclkapelkhlpaaGreatDoor.TJ at hx ⊢
    split at hx
    · rename_i hk
      rw [dif_pos hk]
      have hv := (hc.at (h.2 _ (List.getElem_mem hk))).2
      have hp := DU (cellAt cells l[k]) l
      refine bfs_in hc (h.l hv) (by omega) (fun j h1 h2 => ?_) x hx
      by_cases e : j < l.length
      · have e1 : (LJ l (cellAt cells l[k]))[j] = l[j] := (hp.getElem e).symm
        rw [e1]
        by_cases e2 : j < k
        · exact (hj j e e2).pre hp
        · have : j = k := by omega
          subst this
          exact Q3 _ _
      · omega
    · rename_i hk
      rw [dif_neg hk]
      obtain ⟨j, h1, rfl⟩ := List.getElem_of_mem hx
      exact hj j h1 (by omega)
theorem reach_ok {cells : List (List Val)} (hc : oO cells) {vs : List Val} (hv : ∀ v ∈ vs, jI cells.length v) : sN cells.length (ED cells vs) ∧ oP vs (ED cells vs) ∧ ∀ x ∈ ED cells vs, oP (cellAt cells x) (ED cells vs) := by
  have h0 : sN cells.length (LJ [] vs) := sN.nil.l hv
  refine ⟨sN.TJ hc h0, (Q3 vs []).pre (Wt _ _ _ _), bfs_in hc h0 (by have := hc.1; omega) (fun j h1 h2 => absurd h2 (Nat.not_lt_zero _))⟩
theorem Q4 {α : Type} (k k' : Int) (v : α) : ∀ l : List (Int × α), lk k (D8 k' v l) = if k = k' then some v else lk k l
  | [] => by unfold D8 lk; by_cases h : k = k' <;> simp [h, lk]
  | p :: l => by
    unfold D8
    by_cases h : k' = p.1
    · rw [if_pos h]
      show (if k = p.1 then some v else lk k l) = if k = k' then some v else (if k = p.1 then some p.2 else lk k l)
      by_cases e : k = p.1
      · rw [if_pos e, if_pos (by omega)]
      · rw [if_neg e, if_neg (by omega), if_neg e]
    · rw [if_neg h]
      show (if k = p.1 then some p.2 else lk k (D8 k' v l)) = if k = k' then some v else (if k = p.1 then some p.2 else lk k l)
      by_cases e : k = p.1
      · rw [if_pos e, if_pos e, if_neg (by omega)]
      · rw [if_neg e, if_neg e, Q4 k k' v l]
def Seen (l : List Int) (m : List (Int × Bool)) : Prop := ∀ k, (lk k m).getD false = decide (k ∈ l)
theorem Seen.nil : Seen [] [] := fun k => rfl
theorem Seen.put {l : List Int} {m : List (Int × Bool)} (h : Seen l m) (n : Int) : Seen (l ++ [n]) (D8 n true m) := by
  intro k
  rw [Q4]
  by_cases e : k = n
  · simp [e]
  · rw [if_neg e, h k, Bool.eq_iff_iff]; simp [e]
theorem Jw {ρ : Type} {body : Val → List Int × List (Int × Bool) → (List Int × List (Int × Bool) → Option ρ) → Option ρ} {K : List Int × List (Int × Bool) → Option ρ}
    (hb : ∀ x l m nx, l.length ≤ 1000 → body x (l, m) nx = bif (decide (x.kind = 2) && (!((lk x.n m).getD false))) then nx (l ++ [x.n], D8 x.n true m) else nx (l, m)) :
    ∀ (vs : List Val) (l : List Int) (m : List (Int × Bool)), Seen l m → l.length + vs.length ≤ 1000 → ∃ m', Seen (LJ l vs) m' ∧ each body K vs (l, m) = K (LJ l vs, m')
  | [], l, m, h, _ => ⟨m, h, rfl⟩
  | v :: vs, l, m, h, hl => by
    simp only [List.length_cons] at hl
    rw [dU, hb v l m _ (by omega), h v.n, KT]
    unfold NU
    by_cases hc : v.kind = 2 ∧ v.n ∉ l
    · rw [if_pos hc, dT hc.1, dF hc.2, Bool.true_and, Bool.not_false, cond_true]
      exact Jw hb vs _ _ (h.put v.n) (by simp; omega)
    · rw [if_neg hc, show (decide (v.kind = 2) && !decide (v.n ∈ l)) = false by rw [Bool.and_eq_false_iff]; simp; simp only [not_and, Decidable.not_not] at hc; by_cases e : v.kind = 2 <;> simp [e, hc], cond_false]
      exact Jw hb vs _ _ h (by omega)
theorem Tq {cells : List (List Val)} (hc : oO cells) : ∀ (m N k : Nat) (l : List Int) (s : List (Int × Bool)), sN cells.length l → Seen l s → cells.length < k + m → m < N → k ≤ l.length → again (qd cells) N ((k : Int), l, s) = some (TJ cells m k l, 0)
  | m, 0, k, l, s, h, hs, hm, hN, hk => by omega
  | 0, N + 1, k, l, s, h, hs, hm, hN, hk => by have := h.len; omega
  | m + 1, N + 1, k, l, s, h, hs, hm, hN, hk => by
    rw [EB]
    unfold qd Proofs.YtfclkapelkhlpaaGreatDoor.TJ
    simp only
    have hl := h.len
    have hn := hc.1
    by_cases hlt : k < l.length
    · rw [dT (by omega), cond_true, xM hlt, bnd, dif_pos hlt]
      have hr := h.2 _ (List.getElem_mem hlt)
      have hv := hc.at hr
      rw [(yZ hr).1, bnd]
      have e0 : (fun (s : Int × List Int × List (Int × Bool)) (R9 : Int × List Int × List (Int × Bool) → Option (List Int × Int)) => match s with | (M7, Gf, BP) => bif decide ((M7 : Int) < (Gf.length : Int)) then (idx Gf M7).bind fun x79 => (idx cells x79).bind fun x87 => each sF (sG M7 R9) x87 (Gf, BP) else some (Gf, 0)) = qd cells := rfl
      rw [e0]
      obtain ⟨s', h1, h2⟩ := Jw (body := sF) (K := sG (k : Int) (again (qd cells) N)) (fun x l m nx hl => by
        unfold sF
        simp only [yl]
        cases (decide (x.kind = 2) && (!((lk x.n m).getD false))) with
        | false => rfl
        | true => rw [cond_true, cond_true, qy (room_le (by simp; omega) (by decide))]) (cellAt cells l[k]) l s hs (by have := hv.1.2; omega)
      rw [h2]
      unfold sG
      simp only
      rw [gI (by omega) (by omega)]
      have hp := (DU (cellAt cells l[k]) l).length_le
      exact Tq hc m N (k + 1) _ s' (h.l hv.2) h1 (by omega) (by omega) (by omega)
    · rw [dF (by omega), cond_false, dif_neg hlt]
theorem reach_eq {N : Nat} (hN : 100 ≤ N) {cells : List (List Val)} (hc : oO cells) {vs : List Val} (hv : ∀ v ∈ vs, jI cells.length v) (hl : vs.length ≤ 400) : Er N cells vs = some (ED cells vs, 0) := by
  unfold Er
  rw [(Vm cells).2 hc, dF (by simp), cond_false, dF (by omega), cond_false]
  have k1 : ∀ l : List Val, (∀ v ∈ l, jI cells.length v) → each (vw cells) (sH N cells vs) l () = sH N cells vs () := by
    intro l
    induction l with
    | nil => intro _; rfl
    | cons x l ih =>
      intro h
      rw [dU]
      unfold vw
      rw [(FW _ _).2 (h x (by simp)), dF (by simp), cond_false]
      exact ih (fun v hv => h v (List.mem_cons_of_mem _ hv))
  rw [k1 vs hv]
  unfold sH
  obtain ⟨s', h1, h2⟩ := Jw (body := vv) (K := ym N cells) (fun x l m nx hl => by
    unfold vv
    simp only [yj]
    cases (decide (x.kind = 2) && (!((lk x.n m).getD false))) with
    | false => rfl
    | true => rw [cond_true, cond_true, qy (room_le (by simp; omega) (by decide))]) vs [] [] Seen.nil (by simp; omega)
  rw [h2]
  exact Tq hc 25 N 0 _ s' (sN.nil.l hv) h1 (by have := hc.1; omega) (by omega) (by omega)
theorem IC (a : List Int) (b : Int) : ∀ (m i : Nat), i + m = a.length → upto (kK a b) ou (i : Int) m () = some (match (a.drop i).findIdx? (fun x => decide (b = x)) with | some j => ((i + j : Nat) : Int) | none => -1)
  | 0, i, h => by
    rw [show a.drop i = [] from List.drop_eq_nil_of_le (by omega)]; rfl
  | m + 1, i, h => by
    rw [Gy]
    have ih := IC a b m (i + 1) (by omega)
    unfold kK
    rw [xM (by omega), bnd, List.drop_eq_getElem_cons (by omega : i < a.length), List.findIdx?_cons]
    by_cases e : b = a[i]
    · rw [dT e, cond_true]; simp
    · rw [dF e, cond_false]
      have e0 : (fun (i2 : Int) (s : Unit) (K9 : Unit → Option Int) => (idx a i2).bind fun x8 => bif decide ((b : Int) = x8) then some i2 else K9 ()) = kK a b := rfl
      rw [e0, show ((i : Int) + 1) = ((i + 1 : Nat) : Int) by omega, ih]
      cases (a.drop (i + 1)).findIdx? (fun x => decide (b = x)) with
      | none => rfl
      | some j => simp only [dF e, Bool.false_eq_true, if_false, Option.map_some]; rw [show i + 1 + j = i + (j + 1) by omega]
theorem KU {a : List Int} {b : Int} (h : b ∈ a) : slices_Index_int a b = some (a.idxOf b : Int) := by
  unfold slices_Index_int
  rw [Int.toNat_natCast]
  have := IC a b a.length 0 (by omega)
  rw [List.drop_zero] at this
  have e : a.findIdx? (fun x => decide (b = x)) = some (a.idxOf b) := by
    rw [List.findIdx?_eq_some_iff_findIdx_eq]
    have h2 : a.findIdx (fun x => decide (b = x)) = a.idxOf b := by
      unfold List.idxOf
      congr 1
      funext x
      rw [Bool.eq_iff_iff]; simp; exact ⟨fun h => h.symm, fun h => h.symm⟩
    exact ⟨List.idxOf_lt_length_of_mem h, h2⟩
  rw [e] at this
  simpa using this
theorem contains_eq (a : List Int) (b : Int) : slices_Contains_int a b = some (decide (b ∈ a)) := by
  unfold slices_Contains_int
  by_cases h : b ∈ a
  · rw [KU h, bnd, dT (by omega), dT h]
  · unfold slices_Index_int
    have := IC a b a.length 0 (by omega)
    rw [List.drop_zero] at this
    have e : a.findIdx? (fun x => decide (b = x)) = none := by
      rw [List.findIdx?_eq_none_iff]
      intro x hx; simp; intro e; subst e; exact h hx
    rw [e] at this
    rw [Int.toNat_natCast]
    have h2 : upto (kK a b) ou 0 a.length () = some (-1) := this
    rw [h2, bnd, dF (by omega), dF h]
theorem FY {ρ : Type} {K : List Int → Option (List Int)} : ∀ (vs : List Val) (l : List Int), l.length + vs.length ≤ 1000 → each lD K vs l = K (LJ l vs)
  | [], l, _ => rfl
  | v :: vs, l, hl => by
    simp only [List.length_cons] at hl
    rw [dU, KT]
    generalize hK : each lD K vs = K1
    unfold lD NU
    simp only [ry, ru, contains_eq, bnd]
    by_cases h2 : v.kind = 2
    · rw [dT h2, cond_true]
      by_cases h3 : v.n ∈ l
      · rw [dT h3, Bool.not_true, cond_false, if_neg (fun h => h.2 h3), ← hK]
        exact FY (ρ := ρ) vs l (by omega)
      · rw [dF h3, Bool.not_false, cond_true, if_pos ⟨h2, h3⟩, qy (room_le (by simp; omega) (by decide)), ← hK]
        exact FY (ρ := ρ) vs _ (by simp; omega)
    · rw [dF h2, cond_false, cond_false, if_neg (fun h => h2 h.1), ← hK]
      exact FY (ρ := ρ) vs l (by omega)
theorem Li {cells : List (List Val)} (hc : oO cells) : ∀ (m N k : Nat) (l : List Int) (w : List Val), sN cells.length l → cells.length < k + m → m < N → k ≤ l.length → again (jr cells) N (l, w, (k : Int)) = some (TJ cells m k l)
  | m, 0, k, l, w, h, hm, hN, hk => by omega
  | 0, N + 1, k, l, w, h, hm, hN, hk => by have := h.len; omega
  | m + 1, N + 1, k, l, w, h, hm, hN, hk => by
    rw [EB]
    generalize hK : again (jr cells) N = K
    unfold jr Proofs.YtfclkapelkhlpaaGreatDoor.TJ
    simp only
    have hl := h.len
    have hn := hc.1
    by_cases hlt : k < l.length
    · rw [dT (by omega), cond_true, dT (by omega), cond_true, xM hlt, bnd, dif_pos hlt]
      have hr := h.2 _ (List.getElem_mem hlt)
      have hv := hc.at hr
      rw [(yZ hr).1, bnd]
      unfold nI
      rw [FY (ρ := Unit) _ _ (by have := hv.1.2; omega)]
      unfold nH
      rw [gI (by omega) (by omega), ← hK]
      have hp := (DU (cellAt cells l[k]) l).length_le
      exact Li hc m N (k + 1) _ _ (h.l hv.2) (by omega) (by omega) (by omega)
    · rw [dF (by omega), cond_false, dif_neg hlt]
theorem met_eq {N : Nat} (hN : 100 ≤ N) {cells : List (List Val)} (hc : oO cells) {vs : List Val} (hv : ∀ v ∈ vs, jI cells.length v) (hl : vs.length ≤ 400) : wM N cells vs = some (ED cells vs) := by
  unfold wM
  obtain ⟨M, rfl⟩ : ∃ M, N = M + 1 := ⟨N - 1, by omega⟩
  rw [EB]
  generalize hK : again (jr cells) M = K
  unfold jr
  simp only
  rw [dT (by simp), cond_true, dF (by simp), cond_false]
  unfold nI
  rw [FY (ρ := Unit) _ _ (by simp; omega)]
  unfold nH
  rw [gI (by omega) (by omega), ← hK]
  exact Li hc 25 M 0 _ _ (sN.nil.l hv) (by have := hc.1; omega) (by omega) (by omega)
end Go.Proofs.YtfclkapelkhlpaaGreatDoor
namespace Go.Proofs.YtfclkapelkhlpaaGreatDoor
open Go Go.Proofs Go.LX
def ren (l : List Int) (v : Val) : Val := if v.kind = 2 then ⟨v.kind, (l.idxOf v.n : Nat)⟩ else v
def GJ (l : List Int) (f : LX.Frame) : LX.Frame := { f with regs := f.regs.map (ren l) }
def roots (fr : List LX.Frame) : List Val := fr.flatMap (·.regs)
def uG (s : LX.State) : List Int := ED s.cells (roots s.frames)
def uH (s : LX.State) : LX.State := ⟨s.frames.map (GJ (uG s)), (uG s).map (fun k => (cellAt s.cells k).map (ren (uG s))), s.status, s.aK⟩
structure LK (s : LX.State) : Prop where
  small : Small s
  cells : oO s.cells
  vals : ∀ f ∈ s.frames, ∀ v ∈ f.regs, jI s.cells.length v
theorem Ag.sw {a : List bX} {s : LX.State} (h : Ag a s) (ha : nL a) : LK s where
  small := h.small ha
  cells := h.cells
  vals f hf := by obtain ⟨x, g⟩ := yx h.frames f hf; exact g.vals
theorem LK.roots {s : LX.State} (h : LK s) : ∀ v ∈ roots s.frames, jI s.cells.length v := by
  intro v hv
  unfold YtfclkapelkhlpaaGreatDoor.roots at hv
  obtain ⟨f, hf, hv⟩ := List.mem_flatMap.1 hv
  exact h.vals f hf v hv
theorem YQ (fr : List LX.Frame) (h : ∀ f ∈ fr, f.regs.length ≤ 40) : (roots fr).length ≤ 40 * fr.length := by
  induction fr with
  | nil => simp [roots]
  | cons f l ih =>
    have := h f (by simp)
    have := ih (fun g hg => h g (List.mem_cons_of_mem _ hg))
    unfold roots at *
    rw [List.flatMap_cons, List.length_append, List.length_cons]; omega
theorem LK.rlen {s : LX.State} (h : LK s) : (YtfclkapelkhlpaaGreatDoor.roots s.frames).length ≤ 400 := by
  have := YQ s.frames h.small.regs
  have := h.small.frames
  omega
theorem LK.reach {s : LX.State} (h : LK s) : sN s.cells.length (uG s) ∧ oP (YtfclkapelkhlpaaGreatDoor.roots s.frames) (uG s) ∧ ∀ x ∈ uG s, oP (cellAt s.cells x) (uG s) := reach_ok h.cells h.roots
theorem Tt {α ρ : Type} {body : Int → List α → (List α → Option ρ) → Option ρ} {K : List α → Option ρ} {g : α → α} {P : α → Prop}
    (hb : ∀ (i : Nat) (x : List α) a nx, x[i]? = some a → P a → body (i : Int) x nx = nx (x.set i (g a))) :
    ∀ (l2 l1 : List α), (∀ a ∈ l2, P a) → upto body K (l1.length : Int) l2.length (l1 ++ l2) = K (l1 ++ l2.map g)
  | [], l1, _ => by simp [upto]
  | a :: l2, l1, h => by
    rw [List.length_cons, Gy, hb l1.length (l1 ++ a :: l2) a _ (by simp) (h a (by simp))]
    have := Tt (K := K) hb l2 (l1 ++ [g a]) (fun b hb => h b (List.mem_cons_of_mem _ hb))
    rw [show (l1 ++ a :: l2).set l1.length (g a) = (l1 ++ [g a]) ++ l2 by simp, show ((l1.length : Int) + 1) = ((l1 ++ [g a]).length : Nat) by simp, this]
    simp
theorem DV {α ρ : Type} {body : Int → List α → (List α → Option ρ) → Option ρ} {K : List α → Option ρ} {g : α → α} {P : α → Prop}
    (hb : ∀ (i : Nat) (x : List α) a nx, x[i]? = some a → P a → body (i : Int) x nx = nx (x.set i (g a))) (l : List α) (hp : ∀ a ∈ l, P a) : upto body K 0 l.length l = K (l.map g) := by
  have := Tt (K := K) hb l [] hp
  simpa using this
def NV (l : List Int) (m : List (Int × Int)) : Prop := ∀ k, lk k m = if k ∈ l then some ((l.idxOf k : Nat) : Int) else none
theorem Wu {l : List Int} {m : List (Int × Int)} (h : NV l m) (vs : List Val) (hr : oP vs l) : M8 vs m = some (vs.map (ren l)) := by
  unfold M8
  rw [Int.toNat_natCast]
  refine DV (P := fun v => v.kind = 2 → v.n ∈ l) (fun i x a nx hx hp => ?_) vs (fun v hv => hr v hv)
  unfold Gm Gl
  rw [rP, hx, bnd]
  by_cases hk : a.kind = 2
  · rw [dT hk, cond_true, h a.n, if_pos (hp hk)]
    simp [ren, hk]
  · rw [dF hk, cond_false]
    have : x.set i a = x := by
      obtain ⟨h1, rfl⟩ := List.getElem?_eq_some_iff.1 hx
      exact List.set_getElem_self h1
    simp [ren, hk, this]
theorem NW {s : LX.State} (hc : oO s.cells) {K : List (List Val) × List Int × List (Int × Int) → Option LX.State} : ∀ (l2 l1 : List Int) (m : List (Int × Int)), sN s.cells.length (l1 ++ l2) → NV l1 m →
    ∃ m', NV (l1 ++ l2) m' ∧ dZ (uf s) K (l1.length : Int) l2 (l1.map (cellAt s.cells), l1, m) = K ((l1 ++ l2).map (cellAt s.cells), l1 ++ l2, m')
  | [], l1, m, _, h => ⟨m, by simpa using h, by simp [dZ]⟩
  | k :: l2, l1, m, hm, h => by
    have e1 : l1 ++ k :: l2 = (l1 ++ [k]) ++ l2 := by simp
    have hk : k ∉ l1 := by
      intro hk
      exact (List.nodup_append.1 hm.1).2.2 k hk k (by simp) rfl
    have hl := hm.len
    have hn := hc.1
    simp only [List.length_append, List.length_cons] at hl
    have hr := hm.2 k (by simp)
    rw [iQ]
    obtain ⟨m', h1, h2⟩ := NW hc (K := K) l2 (l1 ++ [k]) (D8 k (l1.length : Int) m) (by rw [← e1]; exact hm) (fun q => by
      rw [Q4]
      by_cases e : q = k
      · subst e
        rw [if_pos rfl, if_pos (by simp), List.idxOf_append, if_neg hk]
        simp
      · rw [if_neg e, h q]
        by_cases hq : q ∈ l1
        · rw [if_pos hq, if_pos (by simp [hq]), List.idxOf_append, if_pos hq]
        · rw [if_neg hq, if_neg (by simp [hq, e])])
    refine ⟨m', by rw [e1]; exact h1, ?_⟩
    have hlen : (((l1 ++ [k]).length : Nat) : Int) = (l1.length : Int) + 1 := by simp
    rw [hlen] at h2
    rw [e1, ← h2]
    generalize dZ (uf s) K ((l1.length : Int) + 1) l2 = K1
    unfold uf
    simp only
    rw [(yZ hr).1, bnd, qy hk, qy (room_le (by simp; omega) (by decide)), List.map_append]
    rfl
theorem Q5 {l : List Int} {m : List (Int × Int)} (h : NV l m) (K : List LX.Frame → Option LX.State) (fr : List LX.Frame) (hr : ∀ f ∈ fr, oP f.regs l) : upto (yn m) K 0 fr.length fr = K (fr.map (GJ l)) :=
  DV (P := fun f => oP f.regs l) (fun i x a nx hx hp => by
    unfold yn
    rw [rP, hx, bnd, Wu h a.regs hp, bnd]
    simp [GJ]) fr hr
theorem Tu {l : List Int} {m : List (Int × Int)} (h : NV l m) (K : List (List Val) → Option LX.State) (cs : List (List Val)) (hr : ∀ c ∈ cs, oP c l) : upto (zP m) K 0 cs.length cs = K (cs.map (fun c => c.map (ren l))) :=
  DV (P := fun c => oP c l) (fun i x a nx hx hp => by
    unfold zP
    rw [rP, hx, bnd, Wu h a hp, bnd]
    simp) cs hr
theorem PK {K : List Val → Option LX.State} : ∀ (fr : List LX.Frame) (acc : List Val), acc.length + (roots fr).length ≤ 1000 → each vR K fr acc = K (acc ++ roots fr)
  | [], acc, _ => by simp [fO, roots]
  | f :: fr, acc, h => by
    have e : roots (f :: fr) = f.regs ++ roots fr := rfl
    rw [e, List.length_append] at h
    rw [dU]
    have ih := PK (K := K) fr (acc ++ f.regs) (by simp; omega)
    generalize each vR K fr = K1 at ih ⊢
    unfold vR
    rw [qy (room_le (by omega) (by decide)), ih, e, List.append_assoc]
theorem NY {fr : List LX.Frame} {l : List Int} (h : oP (roots fr) l) : ∀ f ∈ fr, oP f.regs l := fun f hf v hv hk => h v (List.mem_flatMap.2 ⟨f, hf, hv⟩) hk
theorem Tv {N : Nat} (hN : 100 ≤ N) {s : LX.State} (h : LK s) : Fy N s = some (uH s) := by
  have hr := h.reach
  unfold Fy
  rw [PK s.frames [] (by have := h.rlen; simp; omega), List.nil_append]
  unfold AO
  rw [reach_eq hN h.cells h.roots h.rlen, bnd, dF (by simp), cond_false, copy_eq h.small, bnd]
  have e : ED s.cells (roots s.frames) = uG s := rfl
  simp only [e]
  obtain ⟨m', h1, h2⟩ := NW h.cells (K := vQ s) (uG s) [] [] (by simpa using hr.1) (fun k => by simp [lk])
  have h2' : dZ (uf s) (vQ s) 0 (uG s) ([], ([] : List Int), ([] : List (Int × Int))) = _ := h2
  rw [h2']
  simp only [List.nil_append] at h1 ⊢
  unfold vQ
  simp only [Int.toNat_natCast]
  rw [Q5 h1 _ _ (NY hr.2.1)]
  unfold AL
  rw [Int.toNat_natCast, Tu h1 _ _ (fun c hc => by
    obtain ⟨k, hk, rfl⟩ := List.mem_map.1 hc
    exact hr.2.2 k hk)]
  unfold AJ uH
  rw [List.map_map]; rfl
theorem ren_ref {l : List Int} {v : Val} (h : v.kind = 2 → v.n ∈ l) : rz v l = some (ren l v) := by
  unfold rz nV ren
  by_cases hk : v.kind = 2
  · rw [dT hk, cond_true, KU (h hk), bnd, if_pos hk]
  · rw [dF hk, cond_false, if_neg hk]
theorem regs_ref {l : List Int} (K : List Val → Option LX.State) (vs : List Val) (hr : oP vs l) : upto (mG l) K 0 vs.length vs = K (vs.map (ren l)) :=
  DV (P := fun v => v.kind = 2 → v.n ∈ l) (fun i x a nx hx hp => by
    unfold mG
    rw [rP, hx, bnd, ren_ref hp, bnd]
    simp) vs (fun v hv => hr v hv)
theorem Vq {l : List Int} (K : List LX.Frame → Option LX.State) (fr : List LX.Frame) (hr : ∀ f ∈ fr, oP f.regs l) : upto (l7 l) K 0 fr.length fr = K (fr.map (GJ l)) :=
  DV (P := fun f => oP f.regs l) (fun i x a nx hx hp => by
    unfold l7
    rw [rP, hx, bnd, Int.toNat_natCast, regs_ref _ _ hp]
    unfold qp
    simp [GJ]) fr hr
theorem Tw {l : List Int} (K : List Val → Option LX.State) : ∀ (vs acc : List Val), oP vs l → acc.length + vs.length ≤ 1000 → each (jA l) K vs acc = K (acc ++ vs.map (ren l))
  | [], acc, _, _ => by simp [fO]
  | v :: vs, acc, hr, hl => by
    simp only [List.length_cons] at hl
    rw [dU]
    have ih := Tw K vs (acc ++ [ren l v]) (fun w hw => hr w (List.mem_cons_of_mem _ hw)) (by simp; omega)
    generalize each (jA l) K vs = K1 at ih ⊢
    have e : jA l v acc K1 = K1 (acc ++ [ren l v]) := by
      unfold jA oH ren
      by_cases hk : v.kind = 2
      · rw [dT hk, cond_true, KU (hr v (by simp) hk), bnd, if_pos hk, qy (room_le (by simp; omega) (by decide))]
      · rw [dF hk, cond_false, if_neg hk, qy (room_le (by simp; omega) (by decide))]
    rw [e, ih]; simp
theorem PL {s : LX.State} (hc : oO s.cells) {l : List Int} (hl : sN s.cells.length l) (hr : ∀ x ∈ l, oP (cellAt s.cells x) l) (K : List (List Val) → Option LX.State) :
    ∀ (m i : Nat) (acc : List (List Val)), i + m = l.length → acc.length = i → upto (jB l s) K (i : Int) m acc = K (acc ++ (l.drop i).map (fun k => (cellAt s.cells k).map (ren l)))
  | 0, i, acc, h, _ => by rw [show l.drop i = [] from List.drop_eq_nil_of_le (by omega)]; simp [upto]
  | m + 1, i, acc, h, ha => by
    rw [Gy]
    have hi : i < l.length := by omega
    have hk := hl.2 _ (List.getElem_mem hi)
    have ih := PL hc hl hr K m (i + 1) (acc ++ [(cellAt s.cells l[i]).map (ren l)]) (by omega) (by simp; omega)
    rw [show (((i + 1 : Nat)) : Int) = (i : Int) + 1 by omega] at ih
    generalize upto (jB l s) K ((i : Int) + 1) m = K1 at ih ⊢
    unfold jB
    have h4 := (hc.at hk).1.2
    have h5 := hl.len
    have h6 := hc.1
    rw [xM hi, bnd, (yZ hk).1, bnd, Tw _ _ _ (hr _ (List.getElem_mem hi)) (by simp; omega)]
    unfold oI
    rw [List.nil_append, qy (room_le (by simp; omega) (by decide)), ih, List.drop_eq_getElem_cons hi, List.map_cons]
    simp only [List.append_assoc, List.cons_append, List.nil_append]
theorem Tx {K : List Val → Option LX.State} : ∀ (fr : List LX.Frame) (acc : List Val), acc.length + (roots fr).length ≤ 1000 → each kG K fr acc = K (acc ++ roots fr)
  | [], acc, _ => by simp [fO, roots]
  | f :: fr, acc, h => by
    have e : roots (f :: fr) = f.regs ++ roots fr := rfl
    rw [e, List.length_append] at h
    rw [dU]
    have ih := Tx (K := K) fr (acc ++ f.regs) (by simp; omega)
    generalize each kG K fr = K1 at ih ⊢
    unfold kG
    rw [qy (room_le (by omega) (by decide)), ih, e, List.append_assoc]
theorem Ty {N : Nat} (hN : 100 ≤ N) {s : LX.State} (h : LK s) : rA N s = some (uH s) := by
  have hr := h.reach
  unfold rA
  rw [Tx s.frames [] (by have := h.rlen; simp; omega), List.nil_append]
  unfold oK
  rw [met_eq hN h.cells h.roots h.rlen, bnd, Vp h.small, bnd]
  have e : ED s.cells (roots s.frames) = uG s := rfl
  rw [e, Int.toNat_natCast, Vq _ _ (NY hr.2.1)]
  unfold oJ
  rw [Int.toNat_natCast]
  have := PL h.cells hr.1 hr.2.2 (l6 (s.frames.map (GJ (uG s))) s) (uG s).length 0 [] (by omega) rfl
  have h2 : upto (jB (uG s) s) (l6 (s.frames.map (GJ (uG s))) s) 0 (uG s).length [] = _ := this
  rw [h2]
  rfl
end Go.Proofs.YtfclkapelkhlpaaGreatDoor
namespace Go.Proofs.YtfclkapelkhlpaaGreatDoor
open Go Go.Proofs Go.LX
def lI (r : List Val) (i : Int) : Val := (idx r i).getD ⟨0, 0⟩
def opP (k : Int) (b c : Val) : Option Val :=
  if k = 5 then some ⟨1, if b = c then 1 else 0⟩ else if b.kind ≠ 1 ∨ c.kind ≠ 1 then none else if k = 4 then some ⟨1, if b.n < c.n then 1 else 0⟩ else
  let n := if k = 1 then b.n + c.n else if k = 2 then b.n - c.n else b.n * c.n
  if -1000000000 ≤ n ∧ n ≤ 1000000000 then some ⟨1, n⟩ else none
def ES (f : LX.Frame) (x : bX) : LX.Frame := { f with at_ := min (f.at_ + 1) ((x.code.length : Int) - 1) }
def Oy (s : LX.State) (c : Ins) : Option LX.State :=
  if s.cells.length = 24 then none else some ⟨s.frames.dropLast ++ (s.frames.getLast?.map fun h => { h with regs := h.regs.set c.a.toNat ⟨2, s.cells.length⟩ }).toList, s.cells ++ [List.replicate c.b.toNat ⟨0, 0⟩], s.status, s.aK⟩
def jL (a : List bX) (pre : List LX.Frame) (f : LX.Frame) (cells : List (List Val)) (st wh : Int) (x : bX) (c : Ins) : Option (LX.State × Option Int × Bool) :=
  let g := ES f x
  let r := lI f.regs
  let put := fun (v : Val) => (⟨pre ++ [{ g with regs := f.regs.set c.a.toNat v }], cells, st, wh⟩ : LX.State)
  let stay := (⟨pre ++ [g], cells, st, wh⟩ : LX.State)
  let jump := (⟨pre ++ [{ g with at_ := c.b }], cells, st, wh⟩ : LX.State)
  let bad := fun (v : Val) => v.kind ≠ 2 ∨ ((cellAt cells v.n).length : Int) ≤ c.c
  if c.op = 1 then some (put ⟨1, c.b⟩, none, false) else
  if c.op = 2 then some (put (r c.b), none, false) else
  if c.op = 3 then (opP (c.args.headD 0) (r c.b) (r c.c)).map fun v => (put v, none, false) else
  if c.op = 4 then (if bad (r c.b) then none else some (put (lI (cellAt cells (r c.b).n) c.c), none, false)) else
  if c.op = 6 then (if bad (r c.a) then none else some (⟨pre ++ [g], cells.set (r c.a).n.toNat ((cellAt cells (r c.a).n).set c.c.toNat (r c.b)), st, wh⟩, none, false)) else
  if c.op = 5 then (Oy (if cells.length = 24 then uH stay else stay) c).map fun t => (t, none, false) else
  if c.op = 7 then (if pre.length + 1 = 10 then none else some (⟨pre ++ [g] ++ [⟨c.b, 0, c.args.map r ++ List.replicate (((idx a c.b).map (·.regs)).getD 0 - c.args.length).toNat ⟨0, 0⟩, c.a⟩], cells, st, wh⟩, none, false)) else
  if c.op = 8 then some (match pre.getLast? with
    | none => ⟨[], cells, 1, wh⟩
    | some h => ⟨pre.dropLast ++ [{ h with regs := h.regs.set f.kD.toNat (r c.a) }], cells, st, wh⟩, none, false) else
  if c.op = 9 then (if (r c.a).kind = 1 then some (stay, some (r c.a).n, false) else none) else
  if c.op = 11 then (if (r c.a).kind = 1 then some (⟨pre ++ [g], cells, 3, (r c.a).n⟩, none, true) else none) else
  if c.op = 12 then some (jump, none, false) else
  if c.op = 13 then some (if (r c.a).kind ≠ 2 ∧ (r c.a).n = 0 then jump else stay, none, false) else
  some (stay, none, true)
def R1 (r : Option (GZ × Bool × LX.State)) (q : Option (LX.State × Option Int × Bool)) : Prop := ∃ o ok s', r = some (o, ok, s') ∧ match q with | none => ok = false | some (t, said, p) => ok = true ∧ s' = t ∧ o = ⟨said.isSome, said.getD 0, p⟩
def R2 (r : Option (List Int × Bool × Bool × LX.State)) (q : Option (LX.State × Option Int × Bool)) : Prop := ∃ l p ok s', r = some (l, p, ok, s') ∧ match q with | none => ok = false | some (t, said, pz) => ok = true ∧ s' = t ∧ l = said.toList ∧ p = pz
theorem BN {R : Int} {r : List Val} (hr : (r.length : Int) = R) {i : Int} (h : wy R i) : idx r i = some (lI r i) ∧ lI r i ∈ r := by
  obtain ⟨h1, h2⟩ := h
  obtain ⟨n, rfl⟩ := Int.eq_ofNat_of_zero_le h1
  unfold lI
  rw [xM (by omega)]
  exact ⟨rfl, List.getElem_mem _⟩
theorem ny (pre : List LX.Frame) (f : LX.Frame) : idx (pre ++ [f]) (pre.length : Int) = some f := by rw [rP]; simp
theorem kX (pre : List LX.Frame) (f g : LX.Frame) : (pre ++ [f]).set pre.length g = pre ++ [g] := by simp
theorem jC (pre : List LX.Frame) (f : LX.Frame) : (((pre ++ [f]).length : Int) - 1) = (pre.length : Int) := by simp
theorem mul_bd {x y : Int} (hx : -1000000000 ≤ x ∧ x ≤ 1000000000) (hy : -1000000000 ≤ y ∧ y ≤ 1000000000) : -1000000000000000000 ≤ x * y ∧ x * y ≤ 1000000000000000000 := by
  have h1 : (x * y).natAbs ≤ 1000000000 * 1000000000 := by
    rw [Int.natAbs_mul]
    exact Nat.mul_le_mul (by omega) (by omega)
  omega
theorem jI.int {n : Nat} {v : Val} (h : jI n v) (hk : v.kind = 1) : -1000000000 ≤ v.n ∧ v.n ≤ 1000000000 := by unfold jI at h; omega
theorem op_eq {n : Nat} {k : Int} {b c : Val} (hk : 1 ≤ k ∧ k ≤ 5) (hb : jI n b) (hc : jI n c) : ∃ v, R8 k b c = some (v, (opP k b c).isSome) ∧ ∀ w, opP k b c = some w → v = w := by
  unfold R8 opP Dn
  by_cases h5 : k = 5
  · rw [dT h5, cond_true, if_pos h5]
    by_cases e : b = c
    · subst e; simp
    · rw [if_neg e]
      have : (decide (b.kind = c.kind) && decide (b.n = c.n)) = false := by
        obtain ⟨k1, n1⟩ := b; obtain ⟨k2, n2⟩ := c
        rw [Bool.and_eq_false_iff]; simp at e ⊢
        by_cases h : k1 = k2
        · right; exact e h
        · left; exact h
      rw [this]; simp
  rw [dF h5, cond_false, if_neg h5]
  by_cases hi : b.kind = 1 ∧ c.kind = 1
  · rw [show (decide ((b.kind : Int) ≠ 1) || decide ((c.kind : Int) ≠ 1)) = false by simp [hi.1, hi.2], cond_false, if_neg (by simp [hi.1, hi.2])]
    have b1 := hb.int hi.1
    have c1 := hc.int hi.2
    have m1 := mul_bd b1 c1
    have fin : ∀ z : Int, ∃ v, some ((⟨1, z⟩ : Val), (decide ((-1000000000 : Int) ≤ z) && decide ((z : Int) ≤ 1000000000))) = some (v, (if -1000000000 ≤ z ∧ z ≤ 1000000000 then some (⟨1, z⟩ : Val) else none).isSome) ∧ ∀ w, (if -1000000000 ≤ z ∧ z ≤ 1000000000 then some (⟨1, z⟩ : Val) else none) = some w → v = w := by
      intro z
      by_cases h : -1000000000 ≤ z ∧ z ≤ 1000000000
      · rw [if_pos h, dT h.1, dT h.2]; exact ⟨_, rfl, fun w e => by cases e; rfl⟩
      · rw [if_neg h]
        refine ⟨⟨1, z⟩, ?_, fun w e => by cases e⟩
        · congr 2
          rw [Option.isSome_none, Bool.and_eq_false_iff]; simp only [decide_eq_false_iff_not]; omega
    by_cases h4 : k = 4
    · subst h4
      rw [if_pos rfl]
      simp only [Int.reduceEq, decide_false, decide_true, cond_false, cond_true]
      by_cases e : b.n < c.n <;> simp [e]
    rw [if_neg h4]
    by_cases h1 : k = 1
    · subst h1
      simp only [Int.reduceEq, decide_true, cond_true, if_true]
      rw [gI (by omega) (by omega)]
      exact fin _
    by_cases h2 : k = 2
    · subst h2
      simp only [Int.reduceEq, decide_true, decide_false, cond_true, cond_false, if_true, if_false]
      rw [gI (by omega) (by omega)]
      exact fin _
    · obtain rfl : k = 3 := by omega
      simp only [Int.reduceEq, decide_true, decide_false, cond_true, cond_false, if_true, if_false]
      rw [gI (by omega) (by omega)]
      exact fin _
  · rw [show (decide ((b.kind : Int) ≠ 1) || decide ((c.kind : Int) ≠ 1)) = true by simp; omega, cond_true, if_pos (by omega)]
    exact ⟨_, rfl, fun w e => by cases e⟩
theorem YR {n : Nat} {k : Int} {b c : Val} (hk : 1 ≤ k ∧ k ≤ 5) (hb : jI n b) (hc : jI n c) : ∃ v, ui k b c = some (v, (opP k b c).isSome) ∧ ∀ w, opP k b c = some w → v = w := by
  unfold ui opP
  by_cases h5 : k = 5
  · rw [dT h5, cond_true, if_pos h5]
    by_cases e : b = c
    · subst e; simp
    · rw [if_neg e]
      have : (decide (b.kind = c.kind) && decide (b.n = c.n)) = false := by
        obtain ⟨k1, n1⟩ := b; obtain ⟨k2, n2⟩ := c
        rw [Bool.and_eq_false_iff]; simp at e ⊢
        by_cases h : k1 = k2
        · right; exact e h
        · left; exact h
      rw [this]; simp
  rw [dF h5, cond_false, if_neg h5]
  by_cases hi : b.kind = 1 ∧ c.kind = 1
  · rw [show (decide ((b.kind : Int) ≠ 1) || decide ((c.kind : Int) ≠ 1)) = false by simp [hi.1, hi.2], cond_false, if_neg (by simp [hi.1, hi.2])]
    have b1 := hb.int hi.1
    have c1 := hc.int hi.2
    have m1 := mul_bd b1 c1
    have fin : ∀ z : Int, ∃ v, some ((⟨1, z⟩ : Val), (dW z)) = some (v, (if -1000000000 ≤ z ∧ z ≤ 1000000000 then some (⟨1, z⟩ : Val) else none).isSome) ∧ ∀ w, (if -1000000000 ≤ z ∧ z ≤ 1000000000 then some (⟨1, z⟩ : Val) else none) = some w → v = w := by
      intro z
      unfold dW aO
      by_cases h : -1000000000 ≤ z ∧ z ≤ 1000000000
      · rw [if_pos h, dT h.1, dT h.2]; exact ⟨_, rfl, fun w e => by cases e; rfl⟩
      · rw [if_neg h]
        refine ⟨⟨1, z⟩, ?_, fun w e => by cases e⟩
        · congr 2
          rw [Option.isSome_none, Bool.and_eq_false_iff]; simp only [decide_eq_false_iff_not]; omega
    by_cases h4 : k = 4
    · subst h4
      rw [if_pos rfl]
      simp only [Int.reduceEq, decide_false, decide_true, cond_false, cond_true]
      by_cases e : b.n < c.n <;> simp [e]
    rw [if_neg h4, dF h4, cond_false, gI (by omega) (by omega), gI (by omega) (by omega), gI (by omega) (by omega)]
    by_cases h1 : k = 1
    · subst h1; exact fin _
    by_cases h2 : k = 2
    · subst h2; exact fin _
    · obtain rfl : k = 3 := by omega
      exact fin _
  · rw [show (decide ((b.kind : Int) ≠ 1) || decide ((c.kind : Int) ≠ 1)) = true by simp; omega, cond_true, if_pos (by omega)]
    exact ⟨_, rfl, fun w e => by cases e⟩
end Go.Proofs.YtfclkapelkhlpaaGreatDoor
namespace Go.Proofs.YtfclkapelkhlpaaGreatDoor
open Go Go.Proofs Go.LX
theorem oW {a : List bX} {n : Nat} {f : LX.Frame} : ∀ {l : List LX.Frame} {t : Int}, l8 a n t (l ++ [f]) ↔ l8 a n t l ∧ (∃ x, CE a n f x) ∧ (0 ≤ f.kD ∧ f.kD < (match l.getLast? with | none => t | some g => g.regs.length))
  | [], t => by simp [l8]
  | g :: l, t => by
    show ((∃ x, CE a n g x) ∧ (0 ≤ g.kD ∧ g.kD < t) ∧ l8 a n g.regs.length (l ++ [f])) ↔ _
    rw [oW (l := l)]
    have e : (match (g :: l).getLast? with | none => t | some g => ((g.regs.length : Int))) = (match l.getLast? with | none => ((g.regs.length : Int)) | some g => (g.regs.length : Int)) := by
      rw [List.getLast?_cons]
      cases l.getLast? <;> rfl
    rw [e]
    simp only [l8, and_assoc]
structure mX (a : List bX) (pre : List LX.Frame) (f : LX.Frame) (cells : List (List Val)) (x : bX) (c : Ins) : Prop where
  fr : CE a cells.length f x
  ins : idx x.code f.at_ = some c
  good : ER a x.regs x.code.length c
  chain : l8 a cells.length 1 pre
  kD : 0 ≤ f.kD ∧ f.kD < ahead pre
  many : pre.length + 1 ≤ 10
  PM : oO cells
  proc : (1 ≤ x.regs ∧ x.regs ≤ 40) ∧ uL x
theorem top_ok {a : List bX} (ha : nL a) {pre : List LX.Frame} {f : LX.Frame} {cells : List (List Val)} {st wh : Int} (h : Ag a ⟨pre ++ [f], cells, st, wh⟩) : ∃ x c, mX a pre f cells x c := by
  obtain ⟨h1, ⟨x, g⟩, h3⟩ := oW.1 h.frames
  have hm := ha.mem g.proc
  have hat := g.at_
  obtain ⟨n, hn⟩ := Int.eq_ofNat_of_zero_le hat.1
  have hlt : n < x.code.length := by omega
  refine ⟨x, x.code[n], g, by rw [hn, xM hlt], ha.ins x hm.1 _ (List.getElem_mem _), h1, h3, ?_, h.cells, ⟨by omega, hm.2.2.2⟩⟩
  have := h.many
  simpa using this
theorem mX.ES {a : List bX} {pre : List LX.Frame} {f : LX.Frame} {cells : List (List Val)} {x : bX} {c : Ins} (h : mX a pre f cells x c) : CE a cells.length (ES f x) x where
  proc := h.fr.proc
  at_ := by
    have := h.fr.at_
    have := h.proc.2
    unfold uL at this
    simp only [YtfclkapelkhlpaaGreatDoor.ES]
    omega
  regs := h.fr.regs
  vals := h.fr.vals
theorem mX.reg {a : List bX} {pre : List LX.Frame} {f : LX.Frame} {cells : List (List Val)} {x : bX} {c : Ins} (h : mX a pre f cells x c) {i : Int} (hi : wy x.regs i) : idx f.regs i = some (lI f.regs i) ∧ jI cells.length (lI f.regs i) := by
  have := BN h.fr.regs hi
  exact ⟨this.1, h.fr.vals _ this.2⟩
theorem mX.sw {a : List bX} {pre : List LX.Frame} {f : LX.Frame} {cells : List (List Val)} {x : bX} {c : Ins} (ha : nL a) (h : mX a pre f cells x c) {st wh : Int} {g : LX.Frame} (hg : CE a cells.length g x) : LK ⟨pre ++ [g], cells, st, wh⟩ where
  small := ⟨by have := h.many; simp; omega, fun k hk => by
    rcases List.mem_append.1 hk with hk | hk
    · obtain ⟨y, hy⟩ := yx h.chain k hk
      have := hy.regs
      have := (ha.mem hy.proc).2.2.1
      omega
    · simp at hk; subst hk
      have := hg.regs
      have := h.proc.1
      omega, h.PM.1, fun c hc => (h.PM.2 c hc).1.2⟩
  cells := h.PM
  vals k hk := by
    rcases List.mem_append.1 hk with hk | hk
    · obtain ⟨y, hy⟩ := yx h.chain k hk
      exact hy.vals
    · simp at hk; subst hk; exact hg.vals
section
variable {a : List bX} {pre : List LX.Frame} {f : LX.Frame} {cells : List (List Val)} {st wh : Int} {x : bX} {c : Ins} {N : Nat}
theorem yz (h : mX a pre f cells x c) : ug N ⟨pre ++ [f], cells, st, wh⟩ a = (bif decide ((c.op : Int) = 1) then (idx f.regs c.a).bind fun x41 => og false (pre ++ [{ ES f x with regs := (f.regs.set (c.a).toNat (⟨1, c.b⟩ : Val)) }]) cells st wh else bif decide ((c.op : Int) = 2) then (idx f.regs c.b).bind fun x48 => (idx f.regs c.a).bind fun Q8 => og false (pre ++ [{ ES f x with regs := (f.regs.set (c.a).toNat x48) }]) cells st wh else bif decide ((c.op : Int) = 3) then (idx c.args 0).bind fun q5 => (idx f.regs c.b).bind fun q10 => (idx f.regs c.c).bind fun q15 => (R8 q5 q10 q15).bind fun q17 => (idx f.regs c.a).bind fun q21 => Et ⟨pre ++ [f], cells, st, wh⟩ q17.2 (pre ++ [{ ES f x with regs := (f.regs.set (c.a).toNat q17.1) }]) else bif decide ((c.op : Int) = 4) then kZ N ⟨pre ++ [f], cells, st, wh⟩ f x c a (decide ((c.op : Int) = 4)) else kZ N ⟨pre ++ [f], cells, st, wh⟩ f x c a (decide ((c.op : Int) = 6))) := by
  have hm := h.many
  have hat := h.fr.at_
  have hl := h.proc.2
  unfold uL at hl
  unfold ug
  simp only [jC]
  rw [gI (by omega) (by omega), ny, bnd, h.fr.proc, bnd, h.ins, bnd, gI (by omega) (by omega), gI (by omega) (by omega)]
  simp only [Int.toNat_natCast, kX]
  rfl
theorem step1 (h : mX a pre f cells x c) (hop : c.op = 1) (hr : wy x.regs c.a) : R1 (ug N ⟨pre ++ [f], cells, st, wh⟩ a) (jL a pre f cells st wh x c) := by
  rw [yz h, hop]
  simp only [Int.reduceEq, decide_true, decide_false, cond_true, cond_false]
  rw [(h.reg hr).1, bnd]
  unfold jL
  simp only [hop, if_true]
  exact ⟨_, _, _, rfl, rfl, rfl, rfl⟩
theorem step2 (h : mX a pre f cells x c) (hop : c.op = 2) (hr : wy x.regs c.a) (hb : wy x.regs c.b) : R1 (ug N ⟨pre ++ [f], cells, st, wh⟩ a) (jL a pre f cells st wh x c) := by
  rw [yz h, hop]
  simp only [Int.reduceEq, decide_true, decide_false, cond_true, cond_false]
  rw [(h.reg hb).1, bnd, (h.reg hr).1, bnd]
  unfold jL
  simp only [hop, Int.reduceEq, if_true, if_false]
  exact ⟨_, _, _, rfl, rfl, rfl, rfl⟩
theorem step3 (h : mX a pre f cells x c) (hop : c.op = 3) (hr : wy x.regs c.a) (hb : wy x.regs c.b) (hc : wy x.regs c.c) {n : Int} (hn : c.args = [n]) (hn2 : 1 ≤ n ∧ n ≤ 5) : R1 (ug N ⟨pre ++ [f], cells, st, wh⟩ a) (jL a pre f cells st wh x c) := by
  rw [yz h, hop, hn]
  simp only [Int.reduceEq, decide_true, decide_false, cond_true, cond_false]
  obtain ⟨v, h1, h2⟩ := op_eq hn2 (h.reg hb).2 (h.reg hc).2
  rw [EA, bnd, (h.reg hb).1, bnd, (h.reg hc).1, bnd, h1, bnd, (h.reg hr).1, bnd]
  unfold jL Et
  simp only [hop, hn, Int.reduceEq, if_true, if_false, List.headD_cons]
  cases e : opP n (lI f.regs c.b) (lI f.regs c.c) with
  | none => exact ⟨_, _, _, rfl, rfl⟩
  | some w => rw [h2 w e]; exact ⟨_, _, _, rfl, rfl, rfl, rfl⟩
theorem Jy {v : Val} (hc : oO cells) (h : jI cells.length v) (hk : v.kind = 2) : idx cells v.n = some (cellAt cells v.n) ∧ (1 ≤ (cellAt cells v.n).length ∧ (cellAt cells v.n).length ≤ 4) := by
  have hr := h.ref hk
  exact ⟨(yZ hr).1, (hc.at hr).1⟩
theorem Mf {v : Val} {i : Int} (hi : 0 ≤ i) (h : i < ((cellAt cells v.n).length : Int)) : idx (cellAt cells v.n) i = some (lI (cellAt cells v.n) i) := (BN rfl ⟨hi, h⟩).1
theorem YS (h : mX a pre f cells x c) (hop : c.op = 4) (hr : wy x.regs c.a) (hb : wy x.regs c.b) (hc : 0 ≤ c.c ∧ c.c < 4) : R1 (ug N ⟨pre ++ [f], cells, st, wh⟩ a) (jL a pre f cells st wh x c) := by
  rw [yz h, hop]
  simp only [Int.reduceEq, decide_true, decide_false, cond_true, cond_false]
  unfold kZ Jd zO zN
  simp only [jC, Int.toNat_natCast, kX, hop, Int.reduceEq, decide_true, decide_false, cond_true, cond_false]
  have hv := h.reg hb
  rw [hv.1]
  simp only [bnd]
  unfold jL
  simp only [hop, Int.reduceEq, if_true, if_false]
  by_cases hk : (lI f.regs c.b).kind = 2
  · have hcell := Jy h.PM hv.2 hk
    rw [dF (by omega), cond_false, hcell.1]
    simp only [bnd]
    by_cases hl : ((cellAt cells (lI f.regs c.b).n).length : Int) ≤ c.c
    · rw [dT hl, cond_true, if_pos (by omega)]
      exact ⟨_, _, _, rfl, rfl⟩
    · rw [dF hl, cond_false, if_neg (by omega), Mf hc.1 (by omega), bnd, (h.reg hr).1, bnd]
      exact ⟨_, _, _, rfl, rfl, rfl, rfl⟩
  · rw [dT hk, cond_true, if_pos (.inl hk)]
    exact ⟨_, _, _, rfl, rfl⟩
theorem YT (h : mX a pre f cells x c) (hop : c.op = 6) (hr : wy x.regs c.a) (hb : wy x.regs c.b) (hc : 0 ≤ c.c ∧ c.c < 4) : R1 (ug N ⟨pre ++ [f], cells, st, wh⟩ a) (jL a pre f cells st wh x c) := by
  rw [yz h, hop]
  simp only [Int.reduceEq, decide_true, decide_false, cond_true, cond_false]
  unfold kZ Jd zO zN
  simp only [jC, Int.toNat_natCast, kX, hop, Int.reduceEq, decide_true, decide_false, cond_true, cond_false]
  have hv := h.reg hr
  rw [hv.1]
  simp only [bnd]
  unfold jL
  simp only [hop, Int.reduceEq, if_true, if_false]
  by_cases hk : (lI f.regs c.a).kind = 2
  · have hcell := Jy h.PM hv.2 hk
    rw [dF (by omega), cond_false, hcell.1]
    simp only [bnd]
    by_cases hl : ((cellAt cells (lI f.regs c.a).n).length : Int) ≤ c.c
    · rw [dT hl, cond_true, if_pos (by omega)]
      exact ⟨_, _, _, rfl, rfl⟩
    · rw [dF hl, cond_false, if_neg (by omega), (h.reg hb).1, bnd, Mf hc.1 (by omega), bnd]
      exact ⟨_, _, _, rfl, rfl, rfl, rfl⟩
  · rw [dT hk, cond_true, if_pos (.inl hk)]
    exact ⟨_, _, _, rfl, rfl⟩
theorem KV (g : LX.Frame) : uH ⟨pre ++ [g], cells, st, wh⟩ = ⟨pre.map (GJ (uG ⟨pre ++ [g], cells, st, wh⟩)) ++ [GJ (uG ⟨pre ++ [g], cells, st, wh⟩) g], (uH ⟨pre ++ [g], cells, st, wh⟩).cells, st, wh⟩ := by
  unfold uH; simp
theorem PN {s : LX.State} (h : LK s) : (uH s).cells.length ≤ s.cells.length ∧ (uH s).cells.length ≤ 24 := by
  have h1 := h.reach.1.len
  have := h.cells.1
  unfold uH; simp; omega
theorem Tz (p2 : List LX.Frame) (g : LX.Frame) (cs : List (List Val)) (hl : p2.length ≤ 20) (hcs : cs.length ≤ 24) (hr : wy g.regs.length c.a) (hb : 1 ≤ c.b ∧ c.b ≤ 4) : ∃ ok t, vz c (p2 ++ [g]) cs st wh = some (ok, t) ∧ match Oy ⟨p2 ++ [g], cs, st, wh⟩ c with | none => ok = false | some u => ok = true ∧ t = u := by
  unfold vz Oy
  simp only [jC]
  by_cases h : cs.length = 24
  · rw [dT (by omega), cond_true, if_pos h]; exact ⟨_, _, rfl, rfl⟩
  · rw [dF (by omega), cond_false, if_neg h, gI (by omega) (by omega), ny, bnd, (BN rfl hr).1, bnd, qy (by omega), qy (room_le (by simp; omega) (by decide)), Int.toNat_natCast, kX]
    refine ⟨_, _, rfl, rfl, ?_⟩
    simp
theorem step5 (ha : nL a) (hN : 100 ≤ N) (h : mX a pre f cells x c) (hop : c.op = 5) (hr : wy x.regs c.a) (hb : 1 ≤ c.b ∧ c.b ≤ 4) : R1 (ug N ⟨pre ++ [f], cells, st, wh⟩ a) (jL a pre f cells st wh x c) := by
  rw [yz h, hop]
  simp only [Int.reduceEq, decide_true, decide_false, cond_true, cond_false]
  unfold kZ Na
  simp only [jC, Int.toNat_natCast, kX, hop, Int.reduceEq, decide_true, decide_false, cond_true, cond_false]
  unfold jL
  simp only [hop, Int.reduceEq, if_true, if_false]
  have hm := h.many
  have hsw := mX.sw ha h (st := st) (wh := wh) h.ES
  have hrr : wy (ES f x).regs.length c.a := by have := h.ES.regs; rw [this]; exact hr
  have fin : ∀ s2 : LX.State, (∃ ok t, vz c s2.frames s2.cells s2.status s2.aK = some (ok, t) ∧ match Oy s2 c with | none => ok = false | some u => ok = true ∧ t = u) →
      R1 ((vz c s2.frames s2.cells s2.status s2.aK).bind fun y => some ((⟨false, 0, false⟩ : GZ), y.1, y.2)) ((Oy s2 c).map fun t => (t, none, false)) := by
    rintro s2 ⟨ok, t, h1, h2⟩
    rw [h1, bnd]
    cases e : Oy s2 c with
    | none => rw [e] at h2; exact ⟨_, _, _, rfl, h2⟩
    | some u => rw [e] at h2; exact ⟨_, _, _, rfl, h2.1, h2.2, rfl⟩
  by_cases h24 : cells.length = 24
  · rw [dT (by omega), cond_true, if_pos h24]
    have e1 : ({ f with at_ := min (f.at_ + 1) ((x.code.length : Int) - 1) } : LX.Frame) = ES f x := rfl
    rw [e1, Tv hN hsw, bnd]
    refine fin _ ?_
    rw [KV]
    exact Tz _ _ _ (by simp; omega) (PN hsw).2 (by simpa [GJ] using hrr) hb
  · rw [dF (by omega), cond_false, if_neg h24]
    exact fin ⟨pre ++ [ES f x], cells, st, wh⟩ (Tz _ _ _ (by omega) h.PM.1 hrr hb)
theorem KW {ρ : Type} {body : Int → Int → List Val → (List Val → Option ρ) → Option ρ} {K : List Val → Option ρ} {r : Int → Val} {P : Int → Prop}
    (hb : ∀ (i : Nat) k y nx, i < y.length → P k → body (i : Int) k y nx = nx (y.set i (r k))) : ∀ (l : List Int) (done rest : List Val), (∀ k ∈ l, P k) → l.length ≤ rest.length → dZ body K (done.length : Int) l (done ++ rest) = K (done ++ l.map r ++ rest.drop l.length)
  | [], done, rest, _, _ => by simp [dZ]
  | k :: l, done, z :: rest, h, hl => by
    rw [iQ, hb done.length k (done ++ z :: rest) _ (by simp) (h k (by simp)), show (done ++ z :: rest).set done.length (r k) = (done ++ [r k]) ++ rest by simp, show ((done.length : Int) + 1) = ((done ++ [r k]).length : Nat) by simp, KW hb l (done ++ [r k]) rest (fun q hq => h q (List.mem_cons_of_mem _ hq)) (by simpa using hl)]
    simp
  | k :: l, done, [], h, hl => by simp at hl
theorem step7 (ha : nL a) (h : mX a pre f cells x c) (hop : c.op = 7) (hr : wy x.regs c.a) {p : bX} (hp : idx a c.b = some p) (hl : (c.args.length : Int) = p.params) (hargs : ∀ k ∈ c.args, wy x.regs k) : R1 (ug N ⟨pre ++ [f], cells, st, wh⟩ a) (jL a pre f cells st wh x c) := by
  rw [yz h, hop]
  simp only [Int.reduceEq, decide_true, decide_false, cond_true, cond_false]
  unfold kZ QR
  simp only [jC, Int.toNat_natCast, kX, hop, Int.reduceEq, decide_true, decide_false, cond_true, cond_false]
  unfold jL
  simp only [hop, Int.reduceEq, if_true, if_false]
  have hm := h.many
  have hpr := ha.mem hp
  by_cases h10 : pre.length + 1 = 10
  · rw [dT (by simp; omega), cond_true, if_pos h10]; exact ⟨_, _, _, rfl, rfl⟩
  · rw [dF (by simp; omega), cond_false, if_neg h10, hp, bnd, qy (by omega)]
    have Ri := KW (K := yN ⟨pre ++ [ES f x], cells, st, wh⟩ c a) (body := yM ⟨pre ++ [ES f x], cells, st, wh⟩) (r := lI f.regs) (P := fun k => wy x.regs k) (fun i k y nx hi hk => by
      unfold yM
      simp only [jC]
      rw [gI (by omega) (by omega), ny, bnd]
      show ((idx f.regs k).bind fun Da => (idx y (i : Int)).bind fun x41 => nx (y.set ((i : Int)).toNat Da)) = _
      rw [(h.reg hk).1, bnd, xM hi, bnd, Int.toNat_natCast]) c.args [] (List.replicate p.regs.toNat ⟨0, 0⟩) hargs (by simp; omega)
    have Vr : dZ (yM ⟨pre ++ [ES f x], cells, st, wh⟩) (yN ⟨pre ++ [ES f x], cells, st, wh⟩ c a) 0 c.args (List.replicate p.regs.toNat ⟨0, 0⟩) = _ := Ri
    have e1 : ({ f with at_ := min (f.at_ + 1) ((x.code.length : Int) - 1) } : LX.Frame) = ES f x := rfl
    rw [e1, Vr]
    unfold yN
    simp only
    rw [qy (room_le (by simp; omega) (by decide)), bnd]
    refine ⟨_, _, _, rfl, rfl, ?_, rfl⟩
    simp only [List.nil_append, List.drop_replicate, hp, Option.map_some, Option.getD_some]
    rw [show p.regs.toNat - c.args.length = (p.regs - (c.args.length : Int)).toNat by omega]
theorem step8 (ha : nL a) (h : mX a pre f cells x c) (hop : c.op = 8) (hr : wy x.regs c.a) : R1 (ug N ⟨pre ++ [f], cells, st, wh⟩ a) (jL a pre f cells st wh x c) := by
  rw [yz h, hop]
  simp only [Int.reduceEq, decide_true, decide_false, cond_true, cond_false]
  unfold kZ QS
  simp only [jC, Int.toNat_natCast, kX, hop, Int.reduceEq, decide_true, decide_false, cond_true, cond_false]
  unfold jL
  simp only [hop, Int.reduceEq, if_true, if_false]
  have hm := h.many
  rw [(h.reg hr).1, bnd, gI (by omega) (by omega)]
  rw [show sub? (pre ++ [({ f with at_ := min (f.at_ + 1) ((x.code.length : Int) - 1) } : LX.Frame)]) 0 (pre.length : Int) = some pre by unfold sub?; rw [if_pos (by simp; omega)]; simp [cut], bnd]
  rw [show (pre ++ [({ f with at_ := min (f.at_ + 1) ((x.code.length : Int) - 1) } : LX.Frame)]).take pre.length = pre by simp]
  rcases List.eq_nil_or_concat pre with hp | ⟨q, g, hp⟩
  · subst hp
    exact ⟨_, _, _, rfl, rfl, rfl, rfl⟩
  · rw [List.concat_eq_append] at hp
    subst hp
    have hto := h.kD
    rw [EC] at hto
    simp only [List.length_append, List.length_cons, List.length_nil] at hm
    rw [dF (by simp; omega), cond_false, jC, gI (by omega) (by omega), ny, bnd, (BN rfl hto).1, bnd, Int.toNat_natCast, kX, bnd]
    simp only [List.getLast?_append, List.getLast?_singleton, Option.some_or, List.dropLast_concat]
    exact ⟨_, _, _, rfl, rfl, rfl, rfl⟩
theorem DW (h : mX a pre f cells x c) (hop : (c.op = 9 ∨ c.op = 11 ∨ c.op = 13) ∧ wy x.regs c.a ∨ c.op = 10 ∨ c.op = 12) : R1 (ug N ⟨pre ++ [f], cells, st, wh⟩ a) (jL a pre f cells st wh x c) := by
  rw [yz h]
  rcases hop with ⟨hop | hop | hop, hr⟩ | hop | hop
  · rw [hop]
    simp only [Int.reduceEq, decide_true, decide_false, cond_true, cond_false]
    unfold kZ
    simp only [jC, Int.toNat_natCast, kX, hop, Int.reduceEq, decide_true, decide_false, cond_true, cond_false]
    unfold jL
    simp only [hop, Int.reduceEq, if_true, if_false]
    rw [(h.reg hr).1, bnd]
    by_cases hk : (lI f.regs c.a).kind = 1
    · rw [dT hk, if_pos hk]; exact ⟨_, _, _, rfl, rfl, rfl, rfl⟩
    · rw [dF hk, if_neg hk]; exact ⟨_, _, _, rfl, rfl⟩
  · rw [hop]
    simp only [Int.reduceEq, decide_true, decide_false, cond_true, cond_false]
    unfold kZ
    simp only [jC, Int.toNat_natCast, kX, hop, Int.reduceEq, decide_true, decide_false, cond_true, cond_false]
    unfold jL
    simp only [hop, Int.reduceEq, if_true, if_false]
    rw [(h.reg hr).1, bnd]
    by_cases hk : (lI f.regs c.a).kind = 1
    · rw [dF (by omega), cond_false, if_pos hk]; exact ⟨_, _, _, rfl, rfl, rfl, rfl⟩
    · rw [dT hk, cond_true, if_neg hk]; exact ⟨_, _, _, rfl, rfl⟩
  · rw [hop]
    simp only [Int.reduceEq, decide_true, decide_false, cond_true, cond_false]
    unfold kZ
    simp only [jC, Int.toNat_natCast, kX, hop, Int.reduceEq, decide_true, decide_false, cond_true, cond_false]
    unfold jL
    simp only [hop, Int.reduceEq, if_true, if_false]
    have hv := h.reg hr
    rw [hv.1, bnd]
    have hval := hv.2
    unfold jI at hval
    by_cases hk : (lI f.regs c.a).kind ≠ 2 ∧ (lI f.regs c.a).n = 0
    · rw [if_pos hk, show (decide ((lI f.regs c.a).kind = 0) || (decide ((lI f.regs c.a).kind = 1) && decide ((lI f.regs c.a).n = 0))) = true by simp; omega, cond_true]
      exact ⟨_, _, _, rfl, rfl, rfl, rfl⟩
    · rw [if_neg hk, show (decide ((lI f.regs c.a).kind = 0) || (decide ((lI f.regs c.a).kind = 1) && decide ((lI f.regs c.a).n = 0))) = false by rw [Bool.or_eq_false_iff, Bool.and_eq_false_iff]; simp only [decide_eq_false_iff_not]; omega, cond_false]
      exact ⟨_, _, _, rfl, rfl, rfl, rfl⟩
  · rw [hop]
    simp only [Int.reduceEq, decide_true, decide_false, cond_true, cond_false]
    unfold kZ
    simp only [jC, Int.toNat_natCast, kX, hop, Int.reduceEq, decide_true, decide_false, cond_true, cond_false]
    unfold jL
    simp only [hop, Int.reduceEq, if_true, if_false]
    exact ⟨_, _, _, rfl, rfl, rfl, rfl⟩
  · rw [hop]
    simp only [Int.reduceEq, decide_true, decide_false, cond_true, cond_false]
    unfold kZ
    simp only [jC, Int.toNat_natCast, kX, hop, Int.reduceEq, decide_true, decide_false, cond_true, cond_false]
    unfold jL
    simp only [hop, Int.reduceEq, if_true, if_false]
    exact ⟨_, _, _, rfl, rfl, rfl, rfl⟩
theorem Vs (ha : nL a) (hN : 100 ≤ N) (h : mX a pre f cells x c) : R1 (ug N ⟨pre ++ [f], cells, st, wh⟩ a) (jL a pre f cells st wh x c) := by
  rcases h.good with g | g | g | g | g | g | g | g | g | g
  · exact step1 h g.1 g.2.1
  · exact step2 h g.1 g.2.1 g.2.2
  · obtain ⟨g1, g2, g3, g4, n, g5, g6, g7⟩ := g
    exact step3 h g1 g2 g3 g4 g5 ⟨g6, g7⟩
  · obtain ⟨g1 | g1, g2, g3, g4⟩ := g
    · exact YS h g1 g2 g3 g4
    · exact YT h g1 g2 g3 g4
  · exact step5 ha hN h g.1 g.2.1 g.2.2
  · obtain ⟨g1, g2, ⟨p, g3, g4⟩, g5⟩ := g
    exact step7 ha h g1 g2 g3 g4 g5
  · obtain ⟨g1 | g1 | g1, g2⟩ := g
    · exact step8 ha h g1 g2
    · exact DW h (.inl ⟨.inl g1, g2⟩)
    · exact DW h (.inl ⟨.inr (.inl g1), g2⟩)
  · exact DW h (.inr (.inl g))
  · exact DW h (.inr (.inr g.1))
  · exact DW h (.inl ⟨.inr (.inr g.1), g.2.1⟩)
end
end Go.Proofs.YtfclkapelkhlpaaGreatDoor
namespace Go.Proofs.YtfclkapelkhlpaaGreatDoor
open Go Go.Proofs Go.LX
section
variable {a : List bX} {pre : List LX.Frame} {f : LX.Frame} {cells : List (List Val)} {st wh : Int} {x : bX} {c : Ins} {N : Nat}
theorem rC (h : mX a pre f cells x c) : eZ N ⟨pre ++ [f], cells, st, wh⟩ a = dJ N ⟨pre ++ [f], cells, st, wh⟩ c a (pre ++ [ES f x]) := by
  have hm := h.many
  have hat := h.fr.at_
  have hl := h.proc.2
  unfold uL at hl
  unfold eZ
  simp only [jC]
  rw [gI (by omega) (by omega), ny, bnd, h.fr.proc, bnd, h.ins, bnd, gI (by omega) (by omega)]
  by_cases hc : f.at_ < (x.code.length : Int) - 1
  · rw [dT hc, cond_true, gI (by omega) (by omega), Int.toNat_natCast, kX]
    have e : ES f x = { f with at_ := f.at_ + 1 } := by unfold ES; rw [show min (f.at_ + 1) ((x.code.length : Int) - 1) = f.at_ + 1 by omega]
    rw [e]
  · rw [dF hc, cond_false]
    have e : ES f x = f := by unfold ES; rw [show min (f.at_ + 1) ((x.code.length : Int) - 1) = f.at_ by omega]
    rw [e]
theorem FZ (h : mX a pre f cells x c) {i : Int} (hi : wy x.regs i) : idx (ES f x).regs i = some (lI f.regs i) := (h.reg hi).1
theorem ref1 (h : mX a pre f cells x c) (hop : c.op = 1) (hr : wy x.regs c.a) : R2 (eZ N ⟨pre ++ [f], cells, st, wh⟩ a) (jL a pre f cells st wh x c) := by
  rw [rC h]
  unfold dJ jL
  simp only [hop, Int.reduceEq, decide_true, decide_false, cond_true, cond_false, if_true, if_false, jC, ny, bnd, FZ h hr, Int.toNat_natCast, kX]
  exact ⟨_, _, _, _, rfl, rfl, rfl, rfl, rfl⟩
theorem ref2 (h : mX a pre f cells x c) (hop : c.op = 2) (hr : wy x.regs c.a) (hb : wy x.regs c.b) : R2 (eZ N ⟨pre ++ [f], cells, st, wh⟩ a) (jL a pre f cells st wh x c) := by
  rw [rC h]
  unfold dJ jL
  simp only [hop, Int.reduceEq, decide_true, decide_false, cond_true, cond_false, if_true, if_false, jC, ny, bnd, FZ h hr, FZ h hb, Int.toNat_natCast, kX]
  exact ⟨_, _, _, _, rfl, rfl, rfl, rfl, rfl⟩
theorem ref3 (h : mX a pre f cells x c) (hop : c.op = 3) (hr : wy x.regs c.a) (hb : wy x.regs c.b) (hc : wy x.regs c.c) {n : Int} (hn : c.args = [n]) (hn2 : 1 ≤ n ∧ n ≤ 5) : R2 (eZ N ⟨pre ++ [f], cells, st, wh⟩ a) (jL a pre f cells st wh x c) := by
  rw [rC h]
  obtain ⟨v, h1, h2⟩ := YR hn2 (h.reg hb).2 (h.reg hc).2
  unfold dJ jL sJ
  simp only [hop, hn, Int.reduceEq, decide_true, decide_false, cond_true, cond_false, if_true, if_false, jC, ny, bnd, FZ h hr, FZ h hb, FZ h hc, Int.toNat_natCast, kX, EA, h1, List.headD_cons]
  cases e : opP n (lI f.regs c.b) (lI f.regs c.c) with
  | none => exact ⟨_, _, _, _, rfl, rfl⟩
  | some w => rw [h2 w e]; exact ⟨_, _, _, _, rfl, rfl, rfl, rfl, rfl⟩
theorem PO {α : Type} {l : List α} (h : 1 ≤ l.length) : l ≠ [] := fun e => by subst e; simp at h
theorem ref4 (h : mX a pre f cells x c) (hop : c.op = 4) (hr : wy x.regs c.a) (hb : wy x.regs c.b) (hc : 0 ≤ c.c ∧ c.c < 4) : R2 (eZ N ⟨pre ++ [f], cells, st, wh⟩ a) (jL a pre f cells st wh x c) := by
  rw [rC h]
  have hv := h.reg hb
  unfold dJ jL nW
  simp only [hop, Int.reduceEq, decide_true, decide_false, cond_true, cond_false, if_true, if_false, jC, ny, bnd, FZ h hr, FZ h hb, Int.toNat_natCast, kX]
  by_cases hk : (lI f.regs c.b).kind = 2
  · have hcell := Jy h.PM hv.2 hk
    rw [dF (by omega), cond_false, hcell.1]
    simp only [bnd]
    by_cases hl : ((cellAt cells (lI f.regs c.b).n).length : Int) ≤ c.c
    · rw [dT hl, cond_true, if_pos (by omega)]
      exact ⟨_, _, _, _, rfl, rfl⟩
    · rw [dF hl, cond_false, if_neg (by omega), qy (PO hcell.2.1), Mf hc.1 (by omega), bnd]
      exact ⟨_, _, _, _, rfl, rfl, rfl, rfl, rfl⟩
  · rw [dT hk, cond_true, if_pos (.inl hk)]
    exact ⟨_, _, _, _, rfl, rfl⟩
theorem ref6 (h : mX a pre f cells x c) (hop : c.op = 6) (hr : wy x.regs c.a) (hb : wy x.regs c.b) (hc : 0 ≤ c.c ∧ c.c < 4) : R2 (eZ N ⟨pre ++ [f], cells, st, wh⟩ a) (jL a pre f cells st wh x c) := by
  rw [rC h]
  have hv := h.reg hr
  unfold dJ jL nX
  simp only [hop, Int.reduceEq, decide_true, decide_false, cond_true, cond_false, if_true, if_false, jC, ny, bnd, FZ h hr, FZ h hb, Int.toNat_natCast, kX]
  by_cases hk : (lI f.regs c.a).kind = 2
  · have hcell := Jy h.PM hv.2 hk
    rw [dF (by omega), cond_false, hcell.1]
    simp only [bnd]
    by_cases hl : ((cellAt cells (lI f.regs c.a).n).length : Int) ≤ c.c
    · rw [dT hl, cond_true, if_pos (by omega)]
      exact ⟨_, _, _, _, rfl, rfl⟩
    · rw [dF hl, cond_false, if_neg (by omega), qy (PO hcell.2.1), Mf hc.1 (by omega), bnd]
      exact ⟨_, _, _, _, rfl, rfl, rfl, rfl, rfl⟩
  · rw [dT hk, cond_true, if_pos (.inl hk)]
    exact ⟨_, _, _, _, rfl, rfl⟩
theorem Wv (p2 : List LX.Frame) (g : LX.Frame) (cs : List (List Val)) (hl : p2.length ≤ 20) (hcs : cs.length ≤ 24) (hr : wy g.regs.length c.a) (hb : 1 ≤ c.b ∧ c.b ≤ 4) : R2 (lH c a (p2 ++ [g]) cs st wh) ((Oy ⟨p2 ++ [g], cs, st, wh⟩ c).map fun t => (t, none, false)) := by
  unfold lH Oy
  simp only [jC]
  by_cases h : cs.length = 24
  · rw [dT (by omega), cond_true, if_pos h]; exact ⟨_, _, _, _, rfl, rfl⟩
  · rw [dF (by omega), cond_false, if_neg h, gI (by omega) (by omega), ny, bnd, (BN rfl hr).1, bnd, qy (by omega), qy (room_le (by simp; omega) (by decide)), Int.toNat_natCast, kX]
    refine ⟨_, _, _, _, rfl, rfl, ?_, rfl, rfl⟩
    simp
theorem ref5 (ha : nL a) (hN : 100 ≤ N) (h : mX a pre f cells x c) (hop : c.op = 5) (hr : wy x.regs c.a) (hb : 1 ≤ c.b ∧ c.b ≤ 4) : R2 (eZ N ⟨pre ++ [f], cells, st, wh⟩ a) (jL a pre f cells st wh x c) := by
  rw [rC h]
  unfold dJ jL
  simp only [hop, Int.reduceEq, decide_true, decide_false, cond_true, cond_false, if_true, if_false, jC, ny, bnd, FZ h hr]
  have hm := h.many
  have hsw := mX.sw ha h (st := st) (wh := wh) h.ES
  have hrr : wy (ES f x).regs.length c.a := by have := h.ES.regs; rw [this]; exact hr
  by_cases h24 : cells.length = 24
  · rw [dT (by omega), cond_true, if_pos h24, Ty hN hsw, bnd, KV]
    exact Wv _ _ _ (by simp; omega) (PN hsw).2 (by simpa [GJ] using hrr) hb
  · rw [dF (by omega), cond_false, if_neg h24]
    exact Wv _ _ _ (by omega) h.PM.1 hrr hb
theorem ref7 (ha : nL a) (h : mX a pre f cells x c) (hop : c.op = 7) (hr : wy x.regs c.a) {p : bX} (hp : idx a c.b = some p) (hl : (c.args.length : Int) = p.params) (hargs : ∀ k ∈ c.args, wy x.regs k) : R2 (eZ N ⟨pre ++ [f], cells, st, wh⟩ a) (jL a pre f cells st wh x c) := by
  rw [rC h]
  unfold dJ jL
  simp only [hop, Int.reduceEq, decide_true, decide_false, cond_true, cond_false, if_true, if_false, jC, ny, bnd, FZ h hr]
  have hm := h.many
  have hpr := ha.mem hp
  by_cases h10 : pre.length + 1 = 10
  · rw [dT (by simp; omega), cond_true, if_pos h10]; exact ⟨_, _, _, _, rfl, rfl⟩
  · rw [dF (by simp; omega), cond_false, if_neg h10, hp, bnd, qy (by omega)]
    have Ri := KW (K := jX (pre ++ [ES f x]) c a ⟨pre ++ [f], cells, st, wh⟩) (body := jW (ES f x)) (r := lI f.regs) (P := fun k => wy x.regs k) (fun i k y nx hi hk => by
      unfold jW
      rw [FZ h hk, bnd, xM hi, bnd, Int.toNat_natCast]) c.args [] (List.replicate p.regs.toNat ⟨0, 0⟩) hargs (by simp; omega)
    have Vr : dZ (jW (ES f x)) (jX (pre ++ [ES f x]) c a ⟨pre ++ [f], cells, st, wh⟩) 0 c.args (List.replicate p.regs.toNat ⟨0, 0⟩) = _ := Ri
    rw [Vr]
    unfold jX
    rw [qy (room_le (by simp; omega) (by decide))]
    refine ⟨_, _, _, _, rfl, rfl, ?_, rfl, rfl⟩
    simp only [List.nil_append, List.drop_replicate, hp, Option.map_some, Option.getD_some]
    rw [show p.regs.toNat - c.args.length = (p.regs - (c.args.length : Int)).toNat by omega]
theorem ref8 (ha : nL a) (h : mX a pre f cells x c) (hop : c.op = 8) (hr : wy x.regs c.a) : R2 (eZ N ⟨pre ++ [f], cells, st, wh⟩ a) (jL a pre f cells st wh x c) := by
  rw [rC h]
  unfold dJ jL
  simp only [hop, Int.reduceEq, decide_true, decide_false, cond_true, cond_false, if_true, if_false, jC, ny, bnd, FZ h hr, Int.toNat_natCast]
  have hm := h.many
  rw [gI (by omega) (by omega)]
  rw [show sub? (pre ++ [ES f x]) 0 (pre.length : Int) = some pre by unfold sub?; rw [if_pos (by simp; omega)]; simp [cut], bnd]
  rw [show (pre ++ [ES f x]).take pre.length = pre by simp]
  have e2 : (ES f x).kD = f.kD := rfl
  rcases List.eq_nil_or_concat pre with hp | ⟨q, g, hp⟩
  · subst hp
    exact ⟨_, _, _, _, rfl, rfl, rfl, rfl, rfl⟩
  · rw [List.concat_eq_append] at hp
    subst hp
    have hto := h.kD
    rw [EC] at hto
    simp only [List.length_append, List.length_cons, List.length_nil] at hm
    rw [dF (by simp; omega), cond_false, jC, gI (by omega) (by omega), ny, bnd, e2, (BN rfl hto).1, bnd, Int.toNat_natCast, kX]
    simp only [List.getLast?_append, List.getLast?_singleton, Option.some_or, List.dropLast_concat]
    exact ⟨_, _, _, _, rfl, rfl, rfl, rfl, rfl⟩
theorem F3 (h : mX a pre f cells x c) (hop : (c.op = 9 ∨ c.op = 11 ∨ c.op = 13) ∧ wy x.regs c.a ∨ c.op = 10 ∨ c.op = 12) : R2 (eZ N ⟨pre ++ [f], cells, st, wh⟩ a) (jL a pre f cells st wh x c) := by
  rw [rC h]
  rcases hop with ⟨hop | hop | hop, hr⟩ | hop | hop
  · unfold dJ jL iE
    simp only [hop, Int.reduceEq, decide_true, decide_false, cond_true, cond_false, if_true, if_false, jC, ny, bnd, FZ h hr, Int.toNat_natCast, kX]
    by_cases hk : (lI f.regs c.a).kind = 1
    · rw [dF (by omega), cond_false, if_pos hk]; exact ⟨_, _, _, _, rfl, rfl, rfl, rfl, rfl⟩
    · rw [dT hk, cond_true, if_neg hk]; exact ⟨_, _, _, _, rfl, rfl⟩
  · unfold dJ jL iE
    simp only [hop, Int.reduceEq, decide_true, decide_false, cond_true, cond_false, if_true, if_false, jC, ny, bnd, FZ h hr, Int.toNat_natCast, kX]
    by_cases hk : (lI f.regs c.a).kind = 1
    · rw [dF (by omega), cond_false, if_pos hk]; exact ⟨_, _, _, _, rfl, rfl, rfl, rfl, rfl⟩
    · rw [dT hk, cond_true, if_neg hk]; exact ⟨_, _, _, _, rfl, rfl⟩
  · unfold dJ jL iE
    simp only [hop, Int.reduceEq, decide_true, decide_false, cond_true, cond_false, if_true, if_false, jC, ny, bnd, FZ h hr, Int.toNat_natCast, kX]
    by_cases hk : (lI f.regs c.a).kind ≠ 2 ∧ (lI f.regs c.a).n = 0
    · rw [if_pos hk, dT hk.1, dT hk.2, Bool.true_and, cond_true]
      exact ⟨_, _, _, _, rfl, rfl, rfl, rfl, rfl⟩
    · rw [if_neg hk, show (decide ((lI f.regs c.a).kind ≠ 2) && decide ((lI f.regs c.a).n = 0)) = false by rw [Bool.and_eq_false_iff]; simp only [decide_eq_false_iff_not]; omega, cond_false]
      exact ⟨_, _, _, _, rfl, rfl, rfl, rfl, rfl⟩
  · unfold dJ jL iE
    simp only [hop, Int.reduceEq, decide_true, decide_false, cond_true, cond_false, if_true, if_false, jC, ny, bnd]
    exact ⟨_, _, _, _, rfl, rfl, rfl, rfl, rfl⟩
  · unfold dJ jL iE
    simp only [hop, Int.reduceEq, decide_true, decide_false, cond_true, cond_false, if_true, if_false, jC, ny, bnd, Int.toNat_natCast, kX]
    exact ⟨_, _, _, _, rfl, rfl, rfl, rfl, rfl⟩
theorem Vt (ha : nL a) (hN : 100 ≤ N) (h : mX a pre f cells x c) : R2 (eZ N ⟨pre ++ [f], cells, st, wh⟩ a) (jL a pre f cells st wh x c) := by
  rcases h.good with g | g | g | g | g | g | g | g | g | g
  · exact ref1 h g.1 g.2.1
  · exact ref2 h g.1 g.2.1 g.2.2
  · obtain ⟨g1, g2, g3, g4, n, g5, g6, g7⟩ := g
    exact ref3 h g1 g2 g3 g4 g5 ⟨g6, g7⟩
  · obtain ⟨g1 | g1, g2, g3, g4⟩ := g
    · exact ref4 h g1 g2 g3 g4
    · exact ref6 h g1 g2 g3 g4
  · exact ref5 ha hN h g.1 g.2.1 g.2.2
  · obtain ⟨g1, g2, ⟨p, g3, g4⟩, g5⟩ := g
    exact ref7 ha h g1 g2 g3 g4 g5
  · obtain ⟨g1 | g1 | g1, g2⟩ := g
    · exact ref8 ha h g1 g2
    · exact F3 h (.inl ⟨.inl g1, g2⟩)
    · exact F3 h (.inl ⟨.inr (.inl g1), g2⟩)
  · exact F3 h (.inr (.inl g))
  · exact F3 h (.inr (.inr g.1))
  · exact F3 h (.inl ⟨.inr (.inr g.1), g.2.1⟩)
end
end Go.Proofs.YtfclkapelkhlpaaGreatDoor
namespace Go.Proofs.YtfclkapelkhlpaaGreatDoor
open Go Go.Proofs Go.LX
theorem jI.up {n m : Nat} {v : Val} (h : jI n v) (hm : n ≤ m) : jI m v := by unfold jI at *; omega
theorem CE.up {a : List bX} {n m : Nat} {f : LX.Frame} {x : bX} (h : CE a n f x) (hm : n ≤ m) : CE a m f x := ⟨h.proc, h.at_, h.regs, fun v hv => (h.vals v hv).up hm⟩
theorem F4 {a : List bX} {n m : Nat} (hm : n ≤ m) : ∀ {l : List LX.Frame} {t : Int}, l8 a n t l → l8 a m t l
  | [], _, _ => trivial
  | f :: l, t, h => by obtain ⟨⟨x, g⟩, h2, h3⟩ := h; exact ⟨⟨x, g.up hm⟩, h2, F4 hm h3⟩
theorem ren_ok {n : Nat} {l : List Int} {v : Val} (h : jI n v) (hr : v.kind = 2 → v.n ∈ l) : jI l.length (ren l v) := by
  unfold ren
  by_cases hk : v.kind = 2
  · rw [if_pos hk]
    have := List.idxOf_lt_length_of_mem (hr hk)
    unfold jI
    simp only
    omega
  · rw [if_neg hk]; unfold jI at *; omega
theorem CE.ren {a : List bX} {n : Nat} {l : List Int} {f : LX.Frame} {x : bX} (h : CE a n f x) (hr : oP f.regs l) : CE a l.length (GJ l f) x where
  proc := h.proc
  at_ := h.at_
  regs := by unfold GJ; simpa using h.regs
  vals v hv := by
    unfold GJ at hv
    simp only [List.mem_map] at hv
    obtain ⟨w, hw, rfl⟩ := hv
    exact ren_ok (h.vals w hw) (hr w hw)
theorem Jz {a : List bX} {n : Nat} {r : List Int} : ∀ {l : List LX.Frame} {t : Int}, l8 a n t l → (∀ f ∈ l, oP f.regs r) → l8 a r.length t (l.map (GJ r))
  | [], _, _, _ => trivial
  | f :: l, t, h, hr => by
    obtain ⟨⟨x, g⟩, h2, h3⟩ := h
    refine ⟨⟨x, g.ren (hr f (by simp))⟩, h2, ?_⟩
    have := Jz h3 (fun k hk => hr k (List.mem_cons_of_mem _ hk))
    simpa [GJ] using this
theorem TA {s : LX.State} (h : LK s) : oO (uH s).cells := by
  have hr := h.reach
  have hl := hr.1.len
  have hn := h.cells.1
  refine ⟨by simp [uH]; omega, fun c hc => ?_⟩
  unfold uH at hc ⊢
  simp only [List.mem_map, List.length_map] at hc ⊢
  obtain ⟨k, hk, rfl⟩ := hc
  have hk2 := h.cells.at (hr.1.2 k hk)
  refine ⟨by simpa using hk2.1, fun v hv => ?_⟩
  obtain ⟨w, hw, rfl⟩ := List.mem_map.1 hv
  exact ren_ok (hk2.2 w hw) (hr.2.2 k hk w hw)
theorem sweep_ok {a : List bX} (ha : nL a) {s : LX.State} (h : Ag a s) : Ag a (uH s) where
  status := h.status
  aK := h.aK
  stay := h.stay
  ended := by rw [show (uH s).status = s.status from rfl, h.ended]; simp [uH]
  many := by simpa [uH] using h.many
  cells := TA (h.sw ha)
  frames := by
    have hr := (h.sw ha).reach
    have := Jz h.frames (NY hr.2.1)
    simpa [uH] using this
theorem TB {n : Nat} {r : List Val} {i : Nat} {v : Val} (h : ∀ w ∈ r, jI n w) (hv : jI n v) : ∀ w ∈ r.set i v, jI n w := fun w hw => by
  rcases List.mem_or_eq_of_mem_set hw with hw | rfl
  · exact h w hw
  · exact hv
section
variable {a : List bX} {pre : List LX.Frame} {f : LX.Frame} {cells : List (List Val)} {wh : Int} {x : bX} {c : Ins} {N : Nat}
theorem mX.st (h : mX a pre f cells x c) {g : LX.Frame} {y : bX} {cs : List (List Val)} {s w : Int} (hg : CE a cs.length g y) (hto : g.kD = f.kD) (hc : oO cs) (hl : cells.length ≤ cs.length) (hs : (s = 0 ∧ w = 0) ∨ (s = 3 ∧ -1000000000 ≤ w ∧ w ≤ 1000000000)) : Ag a ⟨pre ++ [g], cs, s, w⟩ where
  status := by simp only; omega
  aK := by simp only; omega
  stay := by simp only; omega
  ended := by simp; omega
  many := by have := h.many; simp; omega
  cells := hc
  frames := oW.2 ⟨F4 hl h.chain, ⟨y, hg⟩, by rw [hto]; exact h.kD⟩
theorem opP_ok {n : Nat} {k : Int} {b c v : Val} (hk : 1 ≤ k ∧ k ≤ 5) (h : opP k b c = some v) : jI n v := by
  unfold opP at h
  split at h
  · cases h; split <;> (unfold jI; simp)
  split at h
  · cases h
  split at h
  · cases h; split <;> (unfold jI; simp)
  simp only at h
  generalize (if k = 1 then b.n + c.n else if k = 2 then b.n - c.n else b.n * c.n) = z at h
  split at h
  · rename_i hz; cases h; exact .inr (.inl ⟨rfl, hz.1, hz.2⟩)
  · cases h
theorem CE.put {n : Nat} {f : LX.Frame} {x : bX} (h : CE a n f x) {i : Nat} {v : Val} (hv : jI n v) : CE a n { f with regs := f.regs.set i v } x := ⟨h.proc, h.at_, by simpa using h.regs, TB h.vals hv⟩
theorem CE.jump {n : Nat} {f : LX.Frame} {x : bX} (h : CE a n f x) {b : Int} (hb : 0 ≤ b ∧ b < x.code.length) : CE a n { f with at_ := b } x := ⟨h.proc, hb, h.regs, h.vals⟩
theorem Ww {s t : LX.State} {g : LX.Frame} (h : Oy ⟨pre ++ [g], cells, 0, wh⟩ c = some t) (hs : Ag a ⟨pre ++ [g], cells, 0, wh⟩) (hb : 1 ≤ c.b ∧ c.b ≤ 4) : Ag a t ∧ t.status = 0 := by
  unfold Oy at h
  split at h
  · cases h
  rename_i h24
  simp only [List.dropLast_concat, List.getLast?_append, List.getLast?_singleton, Option.some_or, Option.map_some, Option.toList_some] at h h24
  cases h
  obtain ⟨h1, ⟨x, h2⟩, h3⟩ := oW.1 hs.frames
  have hc := hs.cells
  simp only at h1 h2 h3 hc
  have hle : cells.length ≤ (cells ++ [List.replicate c.b.toNat (⟨0, 0⟩ : Val)]).length := by simp
  refine ⟨⟨hs.status, hs.aK, hs.stay, by simp, by simpa using hs.many, ⟨?_, ?_⟩, oW.2 ⟨F4 hle h1, ⟨x, (h2.up hle).put ?_⟩, h3⟩⟩, rfl⟩
  · have := hc.1; simp; omega
  · intro d hd
    rcases List.mem_append.1 hd with hd | hd
    · have := hc.2 d hd
      exact ⟨this.1, fun v hv => (this.2 v hv).up hle⟩
    · simp at hd; subst hd
      refine ⟨by simp; omega, fun v hv => ?_⟩
      have := List.eq_of_mem_replicate hv
      subst this
      unfold jI; simp
  · unfold jI; simp; try omega
theorem Vu (ha : nL a) (h : mX a pre f cells x c) (hw : wh = 0) {t : LX.State} {said : Option Int} {p : Bool} (hs : jL a pre f cells 0 wh x c = some (t, said, p)) :
    Ag a t ∧ (t.status = 0 ∨ t.status = 1 ∧ p = false ∨ t.status = 3 ∧ p = true) ∧ (said.isSome → t.status = 0 ∧ c.op = 9) := by
  subst hw
  have YU := h.ES
  have hput : ∀ {v : Val}, jI cells.length v → Ag a ⟨pre ++ [{ ES f x with regs := f.regs.set c.a.toNat v }], cells, 0, 0⟩ := fun hv => h.st (YU.put hv) rfl h.PM (Nat.le_refl _) (.inl ⟨rfl, rfl⟩)
  have PQ : Ag a ⟨pre ++ [ES f x], cells, 0, 0⟩ := h.st YU rfl h.PM (Nat.le_refl _) (.inl ⟨rfl, rfl⟩)
  have hjump : (0 ≤ c.b ∧ c.b < x.code.length) → Ag a ⟨pre ++ [{ ES f x with at_ := c.b }], cells, 0, 0⟩ := fun hb => h.st (YU.jump hb) rfl h.PM (Nat.le_refl _) (.inl ⟨rfl, rfl⟩)
  unfold jL at hs
  rcases h.good with g | g | g | g | g | g | g | g | g | g
  · obtain ⟨hop, hr, hb⟩ := g
    simp only [hop, Int.reduceEq, if_true, if_false] at hs
    cases hs
    exact ⟨hput (.inr (.inl ⟨rfl, hb.1, hb.2⟩)), .inl rfl, by simp⟩
  · obtain ⟨hop, hr, hb⟩ := g
    simp only [hop, Int.reduceEq, if_true, if_false] at hs
    cases hs
    exact ⟨hput (h.reg hb).2, .inl rfl, by simp⟩
  · obtain ⟨hop, hr, hb, hc, n, hn, hn1⟩ := g
    simp only [hop, hn, Int.reduceEq, if_true, if_false, List.headD_cons] at hs
    obtain ⟨v, hv, hs⟩ := Option.map_eq_some_iff.1 hs
    cases hs
    exact ⟨hput (opP_ok hn1 hv), .inl rfl, by simp⟩
  · obtain ⟨hop, hr, hb, hc⟩ := g
    rcases hop with hop | hop
    · simp only [hop, Int.reduceEq, if_true, if_false] at hs
      split at hs
      · cases hs
      · rename_i hbad
        cases hs
        have hk : (lI f.regs c.b).kind = 2 := by omega
        have hv := (h.reg hb).2
        have hcell := h.PM.at (hv.ref hk)
        exact ⟨hput (hcell.2 _ (BN rfl ⟨hc.1, by omega⟩).2), .inl rfl, by simp⟩
    · simp only [hop, Int.reduceEq, if_true, if_false] at hs
      split at hs
      · cases hs
      · rename_i hbad
        cases hs
        have hk : (lI f.regs c.a).kind = 2 := by omega
        have hv := (h.reg hr).2
        have hcell := h.PM.at (hv.ref hk)
        refine ⟨h.st (by simpa using YU) rfl ⟨by simpa using h.PM.1, fun d hd => ?_⟩ (by simp) (.inl ⟨rfl, rfl⟩), .inl rfl, by simp⟩
        rw [List.length_set]
        rcases List.mem_or_eq_of_mem_set hd with hd | rfl
        · exact h.PM.2 d hd
        · exact ⟨by simpa using hcell.1, TB hcell.2 (h.reg hb).2⟩
  · obtain ⟨hop, hr, hb⟩ := g
    simp only [hop, Int.reduceEq, if_true, if_false] at hs
    obtain ⟨u, hu, hs⟩ := Option.map_eq_some_iff.1 hs
    cases hs
    split at hu
    · have hsw := sweep_ok ha PQ
      rw [KV] at hu hsw
      have := Ww (s := t) hu hsw hb
      exact ⟨this.1, .inl this.2, by simp⟩
    · have := Ww (s := t) hu PQ hb
      exact ⟨this.1, .inl this.2, by simp⟩
  · obtain ⟨hop, hr, ⟨p1, hp, hl⟩, hargs⟩ := g
    simp only [hop, Int.reduceEq, if_true, if_false] at hs
    split at hs
    · cases hs
    · rename_i h10
      cases hs
      have hpr := ha.mem hp
      have hm := h.many
      refine ⟨⟨by simp, by simp, by simp, by simp, by simp; omega, h.PM, oW.2 ⟨PQ.frames, ⟨p1, ⟨hp, ?_, ?_, ?_⟩⟩, ?_⟩⟩, .inl rfl, by simp⟩
      · have := hpr.2.2.2; unfold uL at this; simp only; omega
      · simp only [hp, Option.map_some, Option.getD_some, List.length_append, List.length_map, List.length_replicate]; omega
      · intro v hv
        rcases List.mem_append.1 hv with hv | hv
        · obtain ⟨k, hk, rfl⟩ := List.mem_map.1 hv
          exact (h.reg (hargs k hk)).2
        · have := List.eq_of_mem_replicate hv
          subst this; unfold jI; simp
      · simp only [List.getLast?_append, List.getLast?_singleton, Option.some_or]
        have h1 := YU.regs
        rw [h1]; exact hr
  · obtain ⟨hop, hr⟩ := g
    rcases hop with hop | hop | hop
    · simp only [hop, Int.reduceEq, if_true, if_false] at hs
      rcases List.eq_nil_or_concat pre with hp | ⟨q, g, hp⟩
      · subst hp
        simp only [List.getLast?_nil] at hs
        cases hs
        exact ⟨⟨by simp, by simp, by simp, by simp, by simp, h.PM, trivial⟩, .inr (.inl ⟨rfl, rfl⟩), by simp⟩
      · rw [List.concat_eq_append] at hp
        subst hp
        simp only [List.getLast?_append, List.getLast?_singleton, Option.some_or, List.dropLast_concat] at hs
        cases hs
        obtain ⟨c1, ⟨y, c2⟩, c3⟩ := oW.1 h.chain
        have hm := h.many
        simp only [List.length_append, List.length_cons, List.length_nil] at hm
        exact ⟨⟨by simp, by simp, by simp, by simp, by simp; omega, h.PM, oW.2 ⟨c1, ⟨y, c2.put (h.reg hr).2⟩, c3⟩⟩, .inl rfl, by simp⟩
    · simp only [hop, Int.reduceEq, if_true, if_false] at hs
      split at hs
      · cases hs; exact ⟨PQ, .inl rfl, fun _ => ⟨rfl, hop⟩⟩
      · cases hs
    · simp only [hop, Int.reduceEq, if_true, if_false] at hs
      split at hs
      · rename_i hk
        cases hs
        exact ⟨h.st YU rfl h.PM (Nat.le_refl _) (.inr ⟨rfl, (h.reg hr).2.int hk⟩), .inr (.inr ⟨rfl, rfl⟩), by simp⟩
      · cases hs
  · simp only [g, Int.reduceEq, if_true, if_false] at hs
    cases hs; exact ⟨PQ, .inl rfl, by simp⟩
  · obtain ⟨hop, hb⟩ := g
    simp only [hop, Int.reduceEq, if_true, if_false] at hs
    cases hs; exact ⟨hjump hb, .inl rfl, by simp⟩
  · obtain ⟨hop, hr, hb⟩ := g
    simp only [hop, Int.reduceEq, if_true, if_false] at hs
    cases hs
    split
    · exact ⟨hjump hb, .inl rfl, by simp⟩
    · exact ⟨PQ, .inl rfl, by simp⟩
end
end Go.Proofs.YtfclkapelkhlpaaGreatDoor
namespace Go.Proofs.YtfclkapelkhlpaaGreatDoor
open Go Go.Proofs Go.LX
def Wx (a : List bX) (f : LX.Frame) : Option (bX × Ins) := (idx a f.proc).bind fun x => (idx x.code f.at_).map fun c => (x, c)
def Ck (a : List bX) (s : LX.State) : Option (LX.State × Option Int × Bool) :=
  s.frames.getLast?.bind fun f => (Wx a f).bind fun q => jL a s.frames.dropLast f s.cells s.status s.aK q.1 q.2
def F5 (a : List bX) (s : LX.State) : Int := ((s.frames.getLast?.bind fun f => Wx a f).map fun q => q.2.op).getD 0
def wY (a : List bX) : Nat → List Int → Nat → LX.State → LX.State × List Int × Nat
  | 0, said, n, s => (s, said, n)
  | m + 1, said, n, s =>
    if s.status ≠ 0 then (s, said, n) else
    if said.length = 40 ∧ F5 a s = 9 then (s, said, n) else
    match Ck a s with
    | none => ({ s with status := 2 }, said, n + 1)
    | some (t, o, p) => if p then (t, said ++ o.toList, n + 1) else wY a m (said ++ o.toList) (n + 1) t
theorem Gz {a : List bX} (ha : nL a) {s : LX.State} (h : Ag a s) (hs : s.status = 0) : ∃ pre f x c, s = ⟨pre ++ [f], s.cells, 0, 0⟩ ∧ mX a pre f s.cells x c ∧ Ck a s = jL a pre f s.cells 0 0 x c ∧ F5 a s = c.op := by
  obtain ⟨fr, cells, st, wh⟩ := s
  simp only at hs
  subst hs
  have hw : wh = 0 := h.stay (by simp)
  subst hw
  rcases List.eq_nil_or_concat fr with hp | ⟨pre, f, hp⟩
  · have := h.ended.2 hp; simp at this
  · rw [List.concat_eq_append] at hp
    subst hp
    obtain ⟨x, c, g⟩ := top_ok ha h
    refine ⟨pre, f, x, c, rfl, g, ?_, ?_⟩
    · unfold Ck Wx
      simp only [List.getLast?_append, List.getLast?_singleton, Option.some_or, List.dropLast_concat, bnd, g.fr.proc, g.ins, Option.map_some]
    · unfold F5 Wx
      simp only [List.getLast?_append, List.getLast?_singleton, Option.some_or, bnd, g.fr.proc, g.ins, Option.map_some, Option.getD_some]
theorem YV {a : List bX} (ha : nL a) {s : LX.State} (h : Ag a s) (hs : s.status = 0) {N : Nat} (hN : 100 ≤ N) : R1 (ug N s a) (Ck a s) := by
  obtain ⟨pre, f, x, c, h1, h2, h3, -⟩ := Gz ha h hs
  rw [h3]
  generalize s.cells = cells at *
  subst h1
  exact Vs ha hN h2
theorem YW {a : List bX} (ha : nL a) {s : LX.State} (h : Ag a s) (hs : s.status = 0) {N : Nat} (hN : 100 ≤ N) : R2 (eZ N s a) (Ck a s) := by
  obtain ⟨pre, f, x, c, h1, h2, h3, -⟩ := Gz ha h hs
  rw [h3]
  generalize s.cells = cells at *
  subst h1
  exact Vt ha hN h2
theorem Lj {a : List bX} (ha : nL a) {s : LX.State} (h : Ag a s) (hs : s.status = 0) {t : LX.State} {o : Option Int} {p : Bool} (hq : Ck a s = some (t, o, p)) :
    Ag a t ∧ (t.status = 0 ∨ t.status = 1 ∧ p = false ∨ t.status = 3 ∧ p = true) ∧ (o.isSome → t.status = 0 ∧ F5 a s = 9) := by
  obtain ⟨pre, f, x, c, h1, h2, h3, h4⟩ := Gz ha h hs
  rw [h3] at hq
  rw [h4]
  exact Vu ha h2 rfl hq
theorem PR {a : List bX} (ha : nL a) {s : LX.State} (h : Ag a s) (hs : s.status = 0) : (s.frames.length ≤ 10 ∧ 1 ≤ s.frames.length) ∧ ∃ f x c, idx s.frames ((s.frames.length : Int) - 1) = some f ∧ idx a f.proc = some x ∧ idx x.code f.at_ = some c ∧ c.op = F5 a s := by
  obtain ⟨pre, f, x, c, h1, h2, h3, h4⟩ := Gz ha h hs
  refine ⟨⟨h.many, by rw [h1]; simp⟩, f, x, c, ?_, h2.fr.proc, h2.ins, h4.symm⟩
  have : s.frames = pre ++ [f] := by rw [h1]
  rw [this, jC, ny]
theorem TC {a : List bX} (ha : nL a) {N : Nat} (hN : 100 ≤ N) (c : Int) : ∀ (m M : Nat) (said : List Int) (n : Nat) (s : LX.State), Ag a s → said.length ≤ 40 → c = (n : Int) + m → c ≤ 2000 → m < M →
    again (wU N c a) M (said, (n : Int), s.frames, s.cells, s.status, s.aK) = some ((wY a m said n s).1, (wY a m said n s).2.1, ((wY a m said n s).2.2 : Int), 0)
  | m, 0, said, n, s, h, hl, hc, hb, hM => by omega
  | 0, M + 1, said, n, s, h, hl, hc, hb, hM => by
    rw [EB]
    unfold wU xA wY
    simp only
    rw [show (decide ((n : Int) < c) && decide ((s.status : Int) = 0)) = false by rw [dF (by omega)]; rfl, cond_false]
  | m + 1, M + 1, said, n, s, h, hl, hc, hb, hM => by
    rw [EB]
    have ih := TC ha hN c m M
    generalize again (wU N c a) M = K at ih ⊢
    unfold wU wY
    simp only
    by_cases hs : s.status = 0
    · rw [dT (by omega), dT hs, Bool.true_and, cond_true, if_neg (by omega)]
      obtain ⟨hfr, f, x, i, r1, r2, r3, r4⟩ := PR ha h hs
      rw [gI (by omega) (by omega), r1, bnd]
      have go : Bz N said n s.frames s.cells s.status s.aK a K false = some (match Ck a s with
          | none => ({ s with status := 2 }, said, ((n + 1 : Nat) : Int), 0)
          | some (t, o, p) => if p then (t, said ++ o.toList, ((n + 1 : Nat) : Int), 0) else ((wY a m (said ++ o.toList) (n + 1) t).1, (wY a m (said ++ o.toList) (n + 1) t).2.1, ((wY a m (said ++ o.toList) (n + 1) t).2.2 : Int), 0)) ∨ (said.length = 40 ∧ F5 a s = 9) := by
        by_cases hstop : said.length = 40 ∧ F5 a s = 9
        · exact .inr hstop
        left
        unfold Bz
        rw [cond_false, show (⟨s.frames, s.cells, s.status, s.aK⟩ : LX.State) = s from rfl, copy_eq (h.small ha), bnd]
        obtain ⟨o, ok, s', e1, e2⟩ := YV ha h hs hN
        rw [e1, bnd, gI (by omega) (by omega)]
        cases eq : Ck a s with
        | none =>
          rw [eq] at e2
          simp only at e2
          subst e2
          simp only [Bool.not_false, cond_true]
          unfold xA
          push_cast; rfl
        | some q =>
          obtain ⟨t, o2, p⟩ := q
          rw [eq] at e2
          obtain ⟨rfl, rfl, rfl⟩ := e2
          have hk := Lj ha h hs eq
          simp only [Bool.not_true, cond_false]
          have fin : ∀ l, l = said ++ o2.toList → l.length ≤ 40 → Bv (⟨o2.isSome, o2.getD 0, p⟩, true, s') n K l = some (if p then (s', said ++ o2.toList, ((n + 1 : Nat) : Int), 0) else ((wY a m (said ++ o2.toList) (n + 1) s').1, (wY a m (said ++ o2.toList) (n + 1) s').2.1, ((wY a m (said ++ o2.toList) (n + 1) s').2.2 : Int), 0)) := by
            intro l hl1 hl2
            subst hl1
            unfold Bv xA
            simp only
            cases p with
            | true => rw [cond_true, if_pos rfl]; push_cast; rfl
            | false =>
              rw [cond_false, if_neg (by simp)]
              have := ih (said ++ o2.toList) (n + 1) s' hk.1 hl2 (by push_cast; omega) hb (by omega)
              rw [← this]; push_cast; rfl
          cases o2 with
          | none =>
            simp only [Option.isSome_none, cond_false]
            exact fin said (by simp) hl
          | some z =>
            have h9 := (hk.2.2 rfl).2
            simp only [Option.isSome_some, cond_true]
            rw [qy (room_le (by simp; omega) (by decide))]
            exact fin (said ++ [z]) (by simp) (by simp; omega)
      by_cases h40 : said.length = 40
      · rw [dT (by omega), cond_true, r2, bnd, r3, bnd, r4]
        by_cases h9 : F5 a s = 9
        · rw [if_pos ⟨h40, h9⟩, dT h9]; rfl
        · rw [if_neg (fun e => h9 e.2), dF h9]
          rcases go with go | go
          · rw [go]; cases Ck a s with
            | none => rfl
            | some q => obtain ⟨t, o, p⟩ := q; cases p <;> rfl
          · exact absurd go.2 h9
      · rw [dF (by omega), cond_false, if_neg (fun e => h40 e.1)]
        rcases go with go | go
        · rw [go]; cases Ck a s with
          | none => rfl
          | some q => obtain ⟨t, o, p⟩ := q; cases p <;> rfl
        · exact absurd go.1 h40
    · rw [dF hs, Bool.and_false, cond_false, if_pos hs]; rfl
theorem TD {a : List bX} (ha : nL a) {N : Nat} (hN : 100 ≤ N) (c : Int) : ∀ (m M : Nat) (said : List Int) (n : Nat) (s : LX.State), Ag a s → s.status = 0 → said.length ≤ 40 → c = (n : Int) + m → c ≤ 2000 → m < M →
    again (jO N c a) M (said, (n : Int), s.frames, s.cells, s.status, s.aK) = some ((wY a m said n s).1, (wY a m said n s).2.1, ((wY a m said n s).2.2 : Int))
  | m, 0, said, n, s, h, hs, hl, hc, hb, hM => by omega
  | 0, M + 1, said, n, s, h, hs, hl, hc, hb, hM => by
    rw [EB]
    unfold jO wY
    simp only
    rw [dF (by omega), cond_false, show c = (n : Int) by omega]
  | m + 1, M + 1, said, n, s, h, hs, hl, hc, hb, hM => by
    rw [EB]
    have ih := TD ha hN c m M
    generalize again (jO N c a) M = K at ih ⊢
    unfold jO wY
    simp only
    rw [dT (by omega), cond_true, if_neg (by omega)]
    obtain ⟨hfr, f, x, i, r1, r2, r3, r4⟩ := PR ha h hs
    rw [gI (by omega) (by omega), r1, bnd]
    have go : mH N s.frames s.cells s.status s.aK said n a K false = some (match Ck a s with
        | none => ({ s with status := 2 }, said, ((n + 1 : Nat) : Int))
        | some (t, o, p) => if p then (t, said ++ o.toList, ((n + 1 : Nat) : Int)) else ((wY a m (said ++ o.toList) (n + 1) t).1, (wY a m (said ++ o.toList) (n + 1) t).2.1, ((wY a m (said ++ o.toList) (n + 1) t).2.2 : Int))) ∨ (said.length = 40 ∧ F5 a s = 9) := by
      by_cases hstop : said.length = 40 ∧ F5 a s = 9
      · exact .inr hstop
      left
      unfold mH
      rw [cond_false, show (⟨s.frames, s.cells, s.status, s.aK⟩ : LX.State) = s from rfl, Vp (h.small ha), bnd]
      obtain ⟨l, pz, ok, s', e1, e2⟩ := YW ha h hs hN
      rw [e1, bnd]
      cases eq : Ck a s with
      | none =>
        rw [eq] at e2
        simp only at e2
        subst e2
        simp only [Bool.not_false, cond_true]
        rw [gI (by omega) (by omega)]
        push_cast; rfl
      | some q =>
        obtain ⟨t, o2, p⟩ := q
        rw [eq] at e2
        obtain ⟨rfl, rfl, rfl, rfl⟩ := e2
        have hk := Lj ha h hs eq
        have hlen : (said ++ o2.toList).length ≤ 40 := by
          cases o2 with
          | none => simpa using hl
          | some z => have h9 := (hk.2.2 rfl).2; simp; omega
        simp only [Bool.not_true, cond_false]
        rw [qy (room_le (by simp at hlen; omega) (by decide))]
        have stp : ∀ s2 : LX.State, s2.status ≠ 0 → ∀ k l2 n2, wY a k l2 n2 s2 = (s2, l2, n2) := by
          intro s2 h2 k l2 n2
          cases k with
          | zero => rfl
          | succ k => unfold wY; rw [if_pos h2]
        cases pz with
        | true =>
          rw [Bool.true_or, cond_true, gI (by omega) (by omega), if_pos rfl]; push_cast; rfl
        | false =>
          rw [Bool.false_or, if_neg (by simp)]
          by_cases h0 : s'.status = 0
          · rw [dF (by omega), cond_false, gI (by omega) (by omega)]
            have := ih (said ++ o2.toList) (n + 1) s' hk.1 h0 hlen (by push_cast; omega) hb (by omega)
            rw [← this]; push_cast; rfl
          · rw [dT h0, cond_true, gI (by omega) (by omega), stp s' h0]; push_cast; rfl
    by_cases h40 : said.length = 40
    · rw [dT (by omega), cond_true, r2, bnd, r3, bnd, r4]
      by_cases h9 : F5 a s = 9
      · rw [if_pos ⟨h40, h9⟩, dT h9]; rfl
      · rw [if_neg (fun e => h9 e.2), dF h9]
        rcases go with go | go
        · rw [go]; cases Ck a s with
          | none => rfl
          | some q => obtain ⟨t, o, p⟩ := q; cases p <;> rfl
        · exact absurd go.2 h9
    · rw [dF (by omega), cond_false, if_neg (fun e => h40 e.1)]
      rcases go with go | go
      · rw [go]; cases Ck a s with
        | none => rfl
        | some q => obtain ⟨t, o, p⟩ := q; cases p <;> rfl
      · exact absurd go.1 h40
theorem YX (a : List bX) (s : LX.State) (c : Int) {N : Nat} (hN : 3000 ≤ N) : Ia N a s c = some (if Ti a ≠ 0 then (⟨[], [], 0, 0⟩, [], 0, Ti a) else if YP a s ≠ 0 then (⟨[], [], 0, 0⟩, [], 0, YP a s) else if c < 0 ∨ 2000 < c then (⟨[], [], 0, 0⟩, [], 0, 3) else if s.status ≠ 0 then (⟨[], [], 0, 0⟩, [], 0, 7) else ((wY a c.toNat [] 0 s).1, (wY a c.toNat [] 0 s).2.1, ((wY a c.toNat [] 0 s).2.2 : Int), 0)) := by
  unfold Ia
  rw [Cj, bnd]
  by_cases h1 : Ti a = 0
  · rw [if_neg (by omega), if_neg (by omega)]
    by_cases h2 : YP a s = 0
    · rw [dF (by omega), cond_false, if_neg (by omega)]
      by_cases h3 : c < 0 ∨ 2000 < c
      · rw [show (decide ((c : Int) < 0) || decide ((2000 : Int) < c)) = true by rw [Bool.or_eq_true]; simp only [decide_eq_true_eq]; exact h3, cond_true, if_pos h3]
      · rw [show (decide ((c : Int) < 0) || decide ((2000 : Int) < c)) = false by rw [Bool.or_eq_false_iff]; simp only [decide_eq_false_iff_not]; omega, cond_false, if_neg h3]
        by_cases h4 : s.status = 0
        · rw [dF (by omega), cond_false, if_neg (by omega)]
          have ha := FV h1
          have hs := Vn.1 h2
          rw [copy_eq (hs.small ha), bnd]
          have := TC ha (N := N) (by omega) c c.toNat N [] 0 s hs (by simp) (by omega) (by omega) (by omega)
          exact this
        · rw [dT h4, cond_true, if_pos h4]
    · rw [dT h2, cond_true, if_pos h2]
  · rw [if_pos h1, if_pos h1, dT h1, cond_true]
theorem ranOn_eq {a : List bX} {s : LX.State} (ha : nL a) (hs : Ag a s) (h0 : s.status = 0) {c : Int} (hc : 0 ≤ c ∧ c ≤ 2000) {N : Nat} (hN : 3000 ≤ N) : uK N a s c = some ((wY a c.toNat [] 0 s).1, (wY a c.toNat [] 0 s).2.1, ((wY a c.toNat [] 0 s).2.2 : Int)) := by
  unfold uK
  rw [Vp (hs.small ha), bnd]
  exact TD ha (N := N) (by omega) c c.toNat N [] 0 s hs h0 (by simp) (by omega) (by omega) (by omega)
theorem Vv (a : List bX) (s : LX.State) : Ji a s = some (if Ti a ≠ 0 then (⟨[], [], 0, 0⟩, Ti a) else if YP a s ≠ 0 then (⟨[], [], 0, 0⟩, YP a s) else if s.status ≠ 3 then (⟨[], [], 0, 0⟩, 7) else (⟨s.frames, s.cells, 0, 0⟩, 0)) := by
  unfold Ji
  rw [Cj, bnd]
  by_cases h1 : Ti a = 0
  · rw [if_neg (by omega), if_neg (by omega)]
    by_cases h2 : YP a s = 0
    · rw [dF (by omega), cond_false, if_neg (by omega)]
      by_cases h4 : s.status = 3
      · rw [dF (by omega), cond_false, if_neg (by omega), copy_eq ((Vn.1 h2).small (FV h1)), bnd]
      · rw [dT h4, cond_true, if_pos h4]
    · rw [dT h2, cond_true, if_pos h2]
  · rw [if_pos h1, if_pos h1, dT h1, cond_true]
def Vw (a : List bX) : LX.State := ⟨[⟨0, 0, List.replicate (((idx a 0).map (fun x : bX => x.regs)).getD 0).toNat ⟨0, 0⟩, 0⟩], [], 0, 0⟩
theorem NZ {a : List bX} (ha : nL a) : ∃ x, idx a 0 = some x := by
  have := ha.many
  cases a with
  | nil => simp at this
  | cons x l => exact ⟨x, EA x l⟩
theorem YY (a : List bX) : M0 a = some (if Ti a ≠ 0 then (⟨[], [], 0, 0⟩, Ti a) else (Vw a, 0)) := by
  unfold M0
  rw [Q0, bnd]
  by_cases h1 : Ti a = 0
  · rw [dF (by omega), cond_false, if_neg (by omega)]
    obtain ⟨x, hx⟩ := NZ (FV h1)
    have := ((FV h1).mem hx).2.2.1
    rw [hx, bnd, qy (by omega)]
    unfold Vw
    rw [hx]; rfl
  · rw [dT h1, cond_true, if_pos h1]
end Go.Proofs.YtfclkapelkhlpaaGreatDoor
namespace Go.Proofs.YtfclkapelkhlpaaGreatDoor
open Go Go.Proofs Go.LX
theorem NN_big : 3000 ≤ NN := by decide
theorem vV (s : LX.State) : eQ s s = some true := by rw [Tn, dT rfl]
theorem vmSays (a : List bX) (b : LX.State) (c : Int) (d : LX.State) : ∃ N, wX N a b c d = some true := by
  refine ⟨NN, ?_⟩
  unfold wX
  rw [YY, bnd, YX a b c NN_big, bnd, Vv, bnd, chk_eq2, bnd]
  have fold3 : ∀ zB jF y22 y3 fQ, y3.2 = zB → y3.1 = (⟨fQ, [], 0, 0⟩ : LX.State) → mK NN zB a b jF y22 c y3 d fQ = iZ NN zB a b jF y22 c false := by
    rintro zB jF y22 ⟨y3a, y3b⟩ fQ rfl rfl
    unfold mK
    rw [ran_ok, bnd]
    simp only [Bool.not_true, cond_false]
    rw [dF (by simp), cond_false, vV, bnd, Bool.not_true, cond_false, Ws, bnd, Tn, bnd]
    simp
  by_cases h1 : Ti a = 0
  · have ha := FV h1
    obtain ⟨x, hx⟩ := NZ ha
    have hm := (ha.mem hx).2.2.1
    rw [dT h1, cond_true, hx, bnd, qy (by omega)]
    rw [fold3 _ _ _ _ _ (by simp [h1]) (by simp [h1, Vw, hx])]
    unfold iZ
    rw [cond_false, dT h1, cond_true, ckS_eq2, bnd]
    simp only [h1, ne_eq, not_true_eq_false, if_false]
    unfold mJ
    rw [Cj, bnd, if_neg (by omega), dF (by simp), cond_false]
    by_cases h2 : YP a b = 0
    · have hs := Vn.1 h2
      have hsw := hs.sw ha
      simp only [h2, ne_eq, not_true_eq_false, decide_false, cond_false, if_false]
      rw [Tv (by decide) hsw, bnd, Ty (by decide) hsw, bnd, vV, bnd, Bool.not_true, cond_false]
      have fin : ∀ y : LX.State × List Int × Int × Int, y = (if c < 0 ∨ 2000 < c then (⟨[], [], 0, 0⟩, [], 0, 3) else if b.status ≠ 0 then (⟨[], [], 0, 0⟩, [], 0, 7) else ((wY a c.toNat [] 0 b).1, (wY a c.toNat [] 0 b).2.1, ((wY a c.toNat [] 0 b).2.2 : Int), 0)) → mI NN c y b a = some true := by
        rintro y rfl
        unfold mI
        by_cases h3 : c < 0 ∨ 2000 < c
        · rw [show (decide ((c : Int) < 0) || decide ((2000 : Int) < c)) = true by rw [Bool.or_eq_true]; simp only [decide_eq_true_eq]; exact h3, cond_true, if_pos h3]
          simp only [decide_true, cond_true]
          rw [gI (by simp) (by simp), vV]
          rfl
        · rw [show (decide ((c : Int) < 0) || decide ((2000 : Int) < c)) = false by rw [Bool.or_eq_false_iff]; simp only [decide_eq_false_iff_not]; omega, cond_false, if_neg h3]
          by_cases h4 : b.status = 0
          · rw [if_neg (by omega), dF (by omega), cond_false, ranOn_eq ha hs h4 (by omega) NN_big, bnd]
            simp only [decide_true, Bool.and_self, cond_true]
            rw [eqInt, bnd, dT rfl, cond_true, vV, bnd]
          · rw [if_pos h4, dT h4, cond_true]
            simp only [decide_true, cond_true]
            rw [gI (by simp) (by simp), vV]
            rfl
      by_cases h5 : b.status = 3
      · rw [dF (by omega), cond_false]
        simp only [h5, ne_eq, not_true_eq_false, if_false]
        rw [dF (by simp), cond_false, vV, bnd]
        unfold qx
        rw [Bool.not_true, cond_false]
        refine fin _ ?_
        simp only [h5, ne_eq]
      · rw [dT h5, cond_true]
        simp only [h5, ne_eq, not_false_eq_true, if_true]
        rw [dF (by simp), cond_false, vV, bnd]
        unfold qw
        rw [Bool.not_true, cond_false]
        refine fin _ ?_
        rfl
    · rw [dT h2, cond_true, if_pos h2, if_pos h2]
      simp only [decide_true, Bool.and_self, cond_true]
      rw [gI (by simp) (by simp), vV]
      rfl
  · rw [dF h1, cond_false, fold3 _ _ _ _ _ (by simp [h1]) (by simp [h1])]
    unfold iZ
    rw [cond_false, dF h1, cond_false]
    unfold mJ
    rw [Cj, bnd, if_pos h1, dF (by simp), cond_false, dT h1, cond_true, if_pos h1, if_pos h1]
    simp only [decide_true, Bool.and_self, cond_true]
    rw [gI (by simp) (by simp), vV]
    rfl
end Go.Proofs.YtfclkapelkhlpaaGreatDoor
