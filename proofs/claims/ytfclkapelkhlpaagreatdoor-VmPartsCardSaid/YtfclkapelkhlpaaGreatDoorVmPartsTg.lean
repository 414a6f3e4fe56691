/-
  What the law VmParts needs of our own library and of the walks, no more.
-/
import Derived.Test.YtfclkapelkhlpaaGreatDoorVmPartsTf
set_option linter.unusedSimpArgs false
set_option linter.unusedVariables false
set_option maxRecDepth 10000
namespace Go.Proofs.YtfclkapelkhlpaaGreatDoor
open Go Go.Proofs Go.LX
noncomputable section
abbrev QY : List (Int × Str) := [(2, [118]), (4, [46]), (5, [110, 101, 119]), (6, [102]), (1, [])]
theorem bnd {α β : Type} (a : α) (f : α → Option β) : (some a).bind f = f a := rfl
theorem Ui {α σ : Type} {g : α → Option σ} {l : List α} (hu : ∀ p ∈ l, ∀ q ∈ l, g p ≠ none → g q ≠ none → p = q) {p : α} (hp : p ∈ l) {t : σ} (h : g p = some t) : l.findSome? g = some t := by
  cases e : l.findSome? g with
  | none =>
    rw [List.findSome?_eq_none_iff] at e
    rw [e p hp] at h; cases h
  | some u =>
    obtain ⟨q, hq, hqu⟩ := List.exists_of_findSome?_eq_some e
    have := hu p hp q hq (by rw [h]; simp) (by rw [hqu]; simp)
    subst this
    rw [h] at hqu; exact hqu.symm
theorem Lp {α σ : Type} {step : α → σ → Option σ} {g : α → Option σ} : ∀ {l : List α}, (∀ p ∈ l, ∀ s, step p s = some ((g p).getD s)) → (∀ p ∈ l, g p = none) → ∀ s, Iw step l s = some s
  | [], _, _, s => rfl
  | p :: l, h, hn, s => by
    unfold Iw
    rw [h p (by simp), hn p (by simp), Option.getD_none, bnd]
    exact Lp (fun q hq => h q (List.mem_cons_of_mem _ hq)) (fun q hq => hn q (List.mem_cons_of_mem _ hq)) s
theorem Lr {α σ : Type} {step : α → σ → Option σ} {g : α → Option σ} : ∀ {l : List α}, (∀ p ∈ l, ∀ s, step p s = some ((g p).getD s)) → (∀ p ∈ l, ∀ q ∈ l, g p ≠ none → g q ≠ none → p = q) → l.Nodup → ∀ s, Iw step l s = some ((l.findSome? g).getD s)
  | [], _, _, _, s => rfl
  | p :: l, h, hu, hn, s => by
    unfold Iw
    rw [h p (by simp), bnd]
    have hn' := List.nodup_cons.1 hn
    cases e : g p with
    | none =>
      rw [Option.getD_none, Lr (fun q hq => h q (List.mem_cons_of_mem _ hq)) (fun a ha b hb => hu a (List.mem_cons_of_mem _ ha) b (List.mem_cons_of_mem _ hb)) hn'.2 s, List.findSome?_cons, e]
    | some t =>
      rw [Option.getD_some, Lp (fun q hq => h q (List.mem_cons_of_mem _ hq)) (fun q hq => ?_) t, List.findSome?_cons, e]
      · rfl
      · cases e2 : g q with
        | none => rfl
        | some u =>
          have := hu p (by simp) q (List.mem_cons_of_mem _ hq) (by rw [e]; simp) (by rw [e2]; simp)
          subst this
          exact absurd hq hn'.1
theorem Uj {α σ : Type} {step : α → σ → Option σ} {g : α → Option σ} {L : List α} (h : ∀ p ∈ L, ∀ s, step p s = some ((g p).getD s)) (hu : ∀ p ∈ L, ∀ q ∈ L, g p ≠ none → g q ≠ none → p = q) (hn : L.Nodup) (s : σ) : rR step L s ((L.findSome? g).getD s) := by
  intro l hl
  rw [Lr (fun p hp => h p (hl.mem_iff.1 hp)) (fun p hp q hq => hu p (hl.mem_iff.1 hp) q (hl.mem_iff.1 hq)) (hl.nodup_iff.2 hn) s]
  congr 2
  cases e : L.findSome? g with
  | none =>
    rw [List.findSome?_eq_none_iff] at e ⊢
    exact fun x hx => e x (hl.mem_iff.1 hx)
  | some t =>
    obtain ⟨p, hp, ht⟩ := List.exists_of_findSome?_eq_some e
    exact Ui (fun p hp q hq => hu p (hl.mem_iff.1 hp) q (hl.mem_iff.1 hq)) (hl.mem_iff.2 hp) ht
def joO (pe : Int × Str) (y : Int × Bool) (x : Bool) : Option (Int × Int) := bif x then some (pe.1, y.1) else none
def OQ (s : Str) (pe : Int × Str) : Option (Option (Int × Int)) :=
  (strings_TrimPrefix s pe.2).bind fun Mv => (BG Mv).bind fun EA => bif (!EA.2) then (jD (⟨pe.1, EA.1⟩ : Tok)).bind fun rC => some (joO pe EA (decide ((rC : Str) = s))) else some (joO pe EA false)
theorem YO (pe : Int × Str) (y : Int × Bool) (a b : Int) (x : Bool) : uh pe y a b x = some ((joO pe y x).getD (a, b)) := by
  unfold uh joO; cases x <;> rfl
theorem YP (s : Str) (pe : Int × Str) (st : Int × Int) : oG s pe st = (OQ s pe).bind fun o => some (o.getD st) := by
  obtain ⟨a, b⟩ := st
  unfold oG OQ
  simp only [YO]
  cases strings_TrimPrefix s pe.2 with
  | none => rfl
  | some y =>
    simp only [bnd]
    cases BG y with
    | none => rfl
    | some z =>
      simp only [bnd]
      cases z.2 with
      | true => rfl
      | false =>
        simp only [Bool.not_false, cond_true]
        cases jD (⟨pe.1, z.1⟩ : Tok) <;> rfl
def gO (s : Str) (p : Int × Str) : Option (Int × Int) := (OQ s p).join
def okW (s : Str) : Bool := QY.all (fun p => (OQ s p).isSome) && QY.all (fun p => QY.all fun q => (gO s p).isNone || (gO s q).isNone || decide (p = q))
def preC (s : Str) : Int × Int := (QY.findSome? (gO s)).getD (0, 0)
theorem YQ {s : Str} (h : okW s = true) : yB (oG s) QY (0, 0) = some (preC s) := by
  unfold okW at h
  rw [Bool.and_eq_true, List.all_eq_true, List.all_eq_true] at h
  refine Px (Uj (g := gO s) (fun p hp st => ?_) (fun p hp q hq h1 h2 => ?_) (by decide) (0, 0))
  · have h1 := h.1 p hp
    rw [YP]
    unfold gO
    cases e : OQ s p with
    | none => rw [e] at h1; cases h1
    | some o => cases o <;> rfl
  · have := List.all_eq_true.1 (h.2 p hp) q hq
    rw [Bool.or_eq_true, Bool.or_eq_true] at this
    rcases this with (e | e) | e
    · exact absurd (Option.isNone_iff_eq_none.1 e) h1
    · exact absurd (Option.isNone_iff_eq_none.1 e) h2
    · exact rq e
def Xm (s : Str) : Option (Int × Int) := bif okW s then some (preC s) else yB (oG s) QY (0, 0)
theorem Xn (s : Str) : Xm s = yB (oG s) QY (0, 0) := by
  unfold Xm
  cases e : okW s with
  | false => rfl
  | true => exact (YQ e).symm
def vE (N : Nat) (Ag : List Tok) (F : List eU) (Ah : Int) (zA : (List Tok × Int × Bool × Int) → Option (List Tok × dM)) (x29 : Str) (H8 : Bool) (y31 : Int) : Option (List Tok × dM) :=
  (Xm x29).bind fun NS => (EB N x29 Ag F y31 Ah zA H8) NS
theorem JD : @vE = @ui := by
  funext a b c d e f g h
  unfold vE ui
  rw [Xn]
def yV (N : Nat) (W : List Str) (F : List eU) (s : List Tok × Int × Bool × Int) (zA : List Tok × Int × Bool × Int → Option (List Tok × dM)) : Option (List Tok × dM) :=
  match s with | (Ag, Ah, PU, y20) => bif (decide ((0 : Int) < Ah) && PU) then bif decide (((W.length : Int) : Int) ≤ y20) then vE N Ag F Ah zA [] false y20 else gL (jN (y20 + 1)) (gL (jN ((y20 + 1) - 1)) ((idx W ((y20 + 1) - 1)).bind fun x103 => vE N Ag F Ah zA x103 PU (y20 + 1))) else some (Ag, (⟨y20, PU⟩ : dM))
theorem JE : @yV = @uj := by
  unfold yV uj
  rw [JD]
def EP (N : Nat) (sx : dM) (W : List Str) (F : List eU) : Option (List Tok × dM) :=
  again (yV N W F) N ([], 1, sx.ok, sx.at_)
theorem Ls : @EP = @EC := by
  unfold EP EC
  rw [JE]
def vG (N : Nat) (F0 : dM → List Str → List eU → Int → Option (List bu × dM)) (lT : Int) (W : List Str) (F : List eU) (a : Int) (mW : List bu) (ze : Int) (lF : (List bu × Int × Bool) → Option (List bu × dM)) (P5 : Int) (P6 : Bool) (uI : List Tok) : Option (List bu × dM) :=
  bif decide (((lT + 1) : Int) = 2) then (EP N (⟨P5, P6⟩ : dM) W F).bind fun Mv => uk F0 lT a W F mW ze uI lF Mv.2.at_ Mv.2.ok Mv.1 else uk F0 lT a W F mW ze uI lF P5 P6 []
theorem JF : @vG = @um := by
  unfold vG um
  rw [Ls]
def rM (N : Nat) (F0 : dM → List Str → List eU → Int → Option (List bu × dM)) (lT : Int) (W : List Str) (F : List eU) (a : Int) (mW : List bu) (lF : (List bu × Int × Bool) → Option (List bu × dM)) (xK : Int) (AJ : Bool) (ze : Int) : Option (List bu × dM) :=
  bif decide (((lT + 1) : Int) ≠ 4) then (EP N (⟨xK, AJ⟩ : dM) W F).bind fun y95 => vG N F0 lT W F a mW ze lF y95.2.at_ y95.2.ok y95.1 else vG N F0 lT W F a mW ze lF xK AJ []
theorem JG : @rM = @qL := by
  unfold rM qL
  rw [Ls, JF]
def vH (N : Nat) (F0 : dM → List Str → List eU → Int → Option (List bu × dM)) (mW : List bu) (W : List Str) (F : List eU) (a : Int) (lF : (List bu × Int × Bool) → Option (List bu × dM)) (x27 : Str) (y28 : Int) (y29 : Bool) : Option (List bu × dM) :=
  bif decide ((x27 : Str) = [125]) then some (mW, (⟨y28, y29⟩ : dM)) else (Ep [115, 101, 116, 32, 112, 117, 116, 32, 115, 97, 121, 32, 112, 97, 117, 115, 101, 32, 103, 111, 32, 105, 102, 32, 119, 104, 105, 108, 101, 32, 114, 101, 116, 117, 114, 110]).bind fun y31 => (slices_Index_string y31 x27).bind fun lT => gL (jN (lT + 1)) (bif (!(y29 && decide ((0 : Int) < (lT + 1)))) then some ([], (⟨y28, (y29 && decide ((0 : Int) < (lT + 1)))⟩ : dM)) else bif decide (((lT + 1) : Int) ≤ 2) then bif decide (((W.length : Int) : Int) ≤ y28) then (BG []).bind fun y104 => rM N F0 lT W F a mW lF y28 false y104.1 else gL (jN (y28 + 1)) (gL (jN ((y28 + 1) - 1)) ((idx W ((y28 + 1) - 1)).bind fun P7 => (BG P7).bind fun P8 => rM N F0 lT W F a mW lF (y28 + 1) (y29 && decide ((0 : Int) < (lT + 1))) P8.1)) else rM N F0 lT W F a mW lF y28 (y29 && decide ((0 : Int) < (lT + 1))) 0)
theorem JH : @vH = @uo := by
  unfold vH uo
  rw [JG]
def yX (N : Nat) (F0 : dM → List Str → List eU → Int → Option (List bu × dM)) (W : List Str) (F : List eU) (a : Int) (s : List bu × Int × Bool) (lF : List bu × Int × Bool → Option (List bu × dM)) : Option (List bu × dM) :=
  match s with | (mW, AR, Bz) => bif Bz then bif decide (((W.length : Int) : Int) ≤ AR) then vH N F0 mW W F a lF [] AR false else gL (jN (AR + 1)) (gL (jN ((AR + 1) - 1)) ((idx W ((AR + 1) - 1)).bind fun IM => vH N F0 mW W F a lF IM (AR + 1) Bz)) else some ([], (⟨AR, Bz⟩ : dM))
theorem JI : @yX = @uq := by
  unfold yX uq
  rw [JH]
def xx (N : Nat) (F0 : dM → List Str → List eU → Int → Option (List bu × dM)) (W : List Str) (F : List eU) (a : Int) (y1 : Int) (y2 : Bool) : Option (List bu × dM) :=
  again (yX N F0 W F a) N ([], y1, y2)
theorem Kt : @xx = @vX := by
  unfold xx vX
  rw [JI]
def vI (N : Nat) (F0 : dM → List Str → List eU → Int → Option (List bu × dM)) (W : List Str) (F : List eU) (a : Int) (DF : Bool) (Ha : Int) (Mx : Bool) : Option (List bu × dM) :=
  bif DF then xx N F0 W F a Ha false else xx N F0 W F a Ha Mx
theorem JJ : @vI = @uu := by
  unfold vI uu
  rw [Kt]
def yJ (N : Nat) (F0 : dM → List Str → List eU → Int → Option (List bu × dM)) (sx : dM) (W : List Str) (F : List eU) (a : Int) : Option (List bu × dM) :=
  bif decide (((W.length : Int) : Int) ≤ sx.at_) then vI N F0 W F a true sx.at_ false else gL (jN (sx.at_ + 1)) (gL (jN ((sx.at_ + 1) - 1)) ((idx W ((sx.at_ + 1) - 1)).bind fun NT => vI N F0 W F a (decide ((NT : Str) ≠ [123]) || decide ((6 : Int) < a)) (sx.at_ + 1) sx.ok))
theorem M4 : @yJ = @xL := by
  unfold yJ xL
  rw [JJ]
def Aa : Nat → dM → List Str → List eU → Int → Option (List bu × dM)
  | 0 => fun _ _ _ _ => none
  | N + 1 => yJ N (Aa N)
theorem JK : ∀ N, Aa N = vY N
  | 0 => rfl
  | N + 1 => by show yJ N (Aa N) = xL N (vY N); rw [M4, JK N]
def iZ (N : Nat) (y1 : List Str) (rC : List eU) (i101 : Int) (kK : (List eU × Int × Bool) → Option (List eU × Int)) (Hd : Int) (y112 : Bool) : Option (List eU × Int) :=
  (Aa N (⟨Hd, y112⟩ : dM) y1 rC 1).bind fun j6 => (idx rC i101).bind fun xz => kK ((rC.set (i101).toNat { xz with body := j6.1 }), j6.2.at_, j6.2.ok)
theorem wN : @iZ = @ig := by
  unfold iZ ig
  rw [show @Aa = @vY from funext JK]
def ja (N : Nat) (y1 : List Str) (rC : List eU) (i101 : Int) (kK : (List eU × Int × Bool) → Option (List eU × Int)) (yR : Int) (MC : Bool) : Option (List eU × Int) :=
  bif decide (((y1.length : Int) : Int) ≤ yR) then iZ N y1 rC i101 kK yR false else gL (jN (yR + 1)) (gL (jN ((yR + 1) - 1)) ((idx y1 ((yR + 1) - 1)).bind fun Yq => iZ N y1 rC i101 kK (yR + 1) MC))
theorem wO : @ja = @ik := by
  unfold ja ik
  rw [wN]
def jb (N : Nat) (y1 : List Str) (rC : List eU) (i101 : Int) (kK : (List eU × Int × Bool) → Option (List eU × Int)) (pq : Int) (ME : Bool) : Option (List eU × Int) :=
  bif decide (((y1.length : Int) : Int) ≤ pq) then ja N y1 rC i101 kK pq false else gL (jN (pq + 1)) (gL (jN ((pq + 1) - 1)) ((idx y1 ((pq + 1) - 1)).bind fun Yr => ja N y1 rC i101 kK (pq + 1) ME))
theorem wP : @jb = @il := by
  unfold jb il
  rw [wO]
def jc (N : Nat) (y1 : List Str) (rC : List eU) (i101 : Int) (kK : (List eU × Int × Bool) → Option (List eU × Int)) (NU : Bool) (He : Int) (mJ : Bool) : Option (List eU × Int) :=
  bif NU then jb N y1 rC i101 kK He false else jb N y1 rC i101 kK He mJ
theorem wQ : @jc = @iq := by
  unfold jc iq
  rw [wP]
def kH (N : Nat) (y1 : List Str) (i101 : Int) (s : List eU × Int × Bool) (kK : List eU × Int × Bool → Option (List eU × Int)) : Option (List eU × Int) :=
  match s with | (rC, y98, y99) => bif decide (((y1.length : Int) : Int) ≤ y98) then jc N y1 rC i101 kK true y98 false else gL (jN (y98 + 1)) (gL (jN ((y98 + 1) - 1)) ((idx y1 ((y98 + 1) - 1)).bind fun x152 => jc N y1 rC i101 kK (decide ((x152 : Str) ≠ [102, 117, 110])) (y98 + 1) y99))
theorem wR : @kH = @iw := by
  unfold kH iw
  rw [wQ]
def kI (N : Nat) (y1 : List Str) (a : Str) (xg : List eU) (s : Unit) : Option (List eU × Int) :=
  upto (kH N y1) (jl N y1 a) 0 ((xg.length : Int)).toNat (xg, 0, true)
theorem wS : @kI = @iy := by
  unfold kI iy
  rw [wR]
def kJ (N : Nat) (y1 : List Str) (a : Str) (xg : List eU) : Option (List eU × Int) :=
  bif (decide (((xg.length : Int) : Int) = 0) || decide ((4 : Int) < (xg.length : Int))) then some ([], 1) else upto (jm xg) (kI N y1 a xg) 0 ((xg.length : Int)).toNat ()
theorem wT : @kJ = @iA := by
  unfold kJ iA
  rw [wS]
def nV (N : Nat) (a : Str) : Option (List eU × Int) :=
  (L6 a [32]).bind fun y1 => eO (jo y1) (kJ N y1 a) 0 y1 []
theorem yY : @nV = @kF := by
  unfold nV kF
  rw [wT]
def qF (N : Nat) : Option (List eU) :=
  (nV N [102, 117, 110, 32, 48, 32, 49, 32, 123, 32, 115, 101, 116, 32, 48, 32, 51, 32, 119, 104, 105, 108, 101, 32, 118, 48, 32, 123, 32, 115, 97, 121, 32, 102, 49, 32, 118, 48, 32, 118, 48, 32, 103, 111, 32, 118, 48, 32, 112, 97, 117, 115, 101, 32, 115, 101, 116, 32, 48, 32, 45, 32, 118, 48, 32, 49, 32, 125, 32, 125, 32, 102, 117, 110, 32, 50, 32, 50, 32, 123, 32, 114, 101, 116, 117, 114, 110, 32, 42, 32, 118, 48, 32, 118, 49, 32, 125]).bind fun y1 => some y1.1
theorem Bu : @qF = @kz := by
  unfold qF kz
  rw [yY]
abbrev NN : Nat := 70000
theorem Uk : kz NN = qF NN := by rw [Bu]
theorem Xo : pz NN = some true := by
  unfold pz
  rw [Uk]
  kernel_rfl
end
end Go.Proofs.YtfclkapelkhlpaaGreatDoor
namespace Go.Proofs.YtfclkapelkhlpaaGreatDoor
open Go Go.Proofs Go.LX
theorem eqInt (a b : List Int) : slices_Equal_int a b = some (decide (a = b)) := by
  unfold slices_Equal_int
  by_cases h : a.length = b.length
  · rw [dF (by omega)]
    simp only [cond_false, Int.toNat_natCast]
    rw [KH (fun x y => decide (x = y)) a b h rfl (fun i x y nx h1 h2 => by
      unfold mX
      rw [mR, mR, h1, h2]
      by_cases e : x = y <;> simp [e]), Eo (fun _ _ => rfl)]
  · rw [dT (by omega)]
    have : a ≠ b := fun e => h (by rw [e])
    rw [dF this]; rfl
theorem ER (a b : Int) : (decide (a < 0) || decide (b ≤ a)) = !aT a b := by
  unfold aT; rw [Bool.eq_iff_iff]; simp; try omega
theorem idx0 {α : Type} (x : α) (l : List α) : idx (x :: l) 0 = some x := by simp [idx]
theorem RQ {l : List Int} : l.length = 1 ↔ ∃ x, l = [x] := by
  match l with
  | [] => simp
  | [x] => simp
  | x :: y :: r => simp
def yZ (i : Nat) (x : bN) : Int :=
  if (0 ≤ x.params ∧ x.params ≤ 3) ∧ (1 ≤ x.regs ∧ x.params ≤ x.regs ∧ x.regs ≤ 40) ∧ ¬ (i = 0 ∧ x.params ≠ 0) then (if 1 ≤ x.code.length ∧ x.code.length ≤ 2000 then 0 else 2) else 3
theorem b39_eq (i : Nat) (x : bN) (nx : Unit → Option Int) : iP (i : Int) x () nx = if yZ i x ≠ 0 then some (yZ i x) else nx () := by
  unfold iP yZ
  by_cases h1 : (0 ≤ x.params ∧ x.params ≤ 3) ∧ (1 ≤ x.regs ∧ x.params ≤ x.regs ∧ x.regs ≤ 40) ∧ ¬ (i = 0 ∧ x.params ≠ 0)
  · have e : (((((decide ((x.params : Int) < 0) || decide ((3 : Int) < x.params)) || decide ((x.regs : Int) < 1)) || decide ((x.regs : Int) < x.params)) || decide ((40 : Int) < x.regs)) || (decide ((i : Int) = 0) && decide ((0 : Int) < x.params))) = false := by
      simp only [Bool.or_eq_false_iff, Bool.and_eq_false_iff, decide_eq_false_iff_not]; omega
    rw [e, if_pos h1]
    simp only [cond_false]
    by_cases h2 : 1 ≤ x.code.length ∧ x.code.length ≤ 2000
    · rw [if_pos h2, show (decide (((x.code.length : Int) : Int) = 0) || decide ((2000 : Int) < (x.code.length : Int))) = false by simp only [Bool.or_eq_false_iff, decide_eq_false_iff_not]; omega]
      rfl
    · rw [if_neg h2, show (decide (((x.code.length : Int) : Int) = 0) || decide ((2000 : Int) < (x.code.length : Int))) = true by simp only [Bool.or_eq_true, decide_eq_true_eq]; omega]
      rfl
  · have e : (((((decide ((x.params : Int) < 0) || decide ((3 : Int) < x.params)) || decide ((x.regs : Int) < 1)) || decide ((x.regs : Int) < x.params)) || decide ((40 : Int) < x.regs)) || (decide ((i : Int) = 0) && decide ((0 : Int) < x.params))) = true := by
      simp only [Bool.or_eq_true, Bool.and_eq_true, decide_eq_true_eq]; omega
    rw [e, if_neg h1]
    rfl
def heads : Nat → List bN → Int
  | _, [] => 0
  | i, x :: p => if yZ i x ≠ 0 then yZ i x else heads (i + 1) p
theorem JM (k : Unit → Option Int) : ∀ (p : List bN) (i : Nat), eO iP k (i : Int) p () = if heads i p ≠ 0 then some (heads i p) else k ()
  | [], i => by simp [heads, eO]
  | x :: p, i => by
    show iP (i : Int) x () (eO iP k ((i : Int) + 1) p) = _
    rw [b39_eq, show ((i : Int) + 1) = ((i + 1 : Nat) : Int) by omega, JM k p (i + 1), heads]
    by_cases h : yZ i x = 0 <;> simp [h]
end Go.Proofs.YtfclkapelkhlpaaGreatDoor
namespace Go.Proofs.YtfclkapelkhlpaaGreatDoor
open Go Go.Proofs Go.LX
def qR (x : bN) : Prop := 1 ≤ x.code.length ∧ x.code.length ≤ 2000
theorem dI {α σ ρ : Type} {body : α → σ → (σ → ρ) → ρ} {k : σ → ρ} (x : α) (l : List α) (s : σ) : each body k (x :: l) s = body x s (each body k l) := rfl
theorem gG {α σ ρ : Type} {body : α → σ → (σ → ρ) → ρ} {k : σ → ρ} (s : σ) : each body k [] s = k s := rfl
theorem Xp (d : Int) : ∀ l : List Int, ∃ y, each (mK d) rH l () = some y
  | [] => ⟨0, rfl⟩
  | x :: l => by
    obtain ⟨y, hy⟩ := Xp d l
    rw [dI]
    unfold mK
    cases (!(decide ((0 : Int) ≤ x) && decide ((x : Int) < d))) with
    | true => exact ⟨3, rfl⟩
    | false => exact ⟨y, hy⟩
theorem Xq (x9 : Bool) (a : Ins) (b Ib : Int) (c : List bN) (y13 yu d Hf : Int) : ∃ y, dS x9 a b Ib c y13 yu d Hf = some y ∧ (y = 0 → (a.args.length : Int) = yu) := by
  unfold dS
  cases x9 with
  | false => exact ⟨3, rfl, fun h => absurd h (by decide)⟩
  | true =>
    simp only [Bool.not_true, cond_false]
    generalize hc : (((decide ((a.a : Int) ≠ Hf) || decide ((a.b : Int) ≠ Ib)) || decide ((a.c : Int) ≠ y13)) || decide (((a.args.length : Int) : Int) ≠ yu)) = C
    cases C with
    | true => exact ⟨4, rfl, fun h => absurd h (by decide)⟩
    | false =>
      simp only [Bool.or_eq_false_iff, decide_eq_false_iff_not, Decidable.not_not] at hc
      simp only [cond_false]
      cases decide ((a.op : Int) = 7) with
      | true => obtain ⟨y, hy⟩ := Xp d a.args; exact ⟨y, hy, fun _ => hc.2⟩
      | false => exact ⟨0, rfl, fun _ => hc.2⟩
theorem j4_tot (a : Ins) (b : Int) (c : List bN) (d : Int) (x9 : Bool) (yu Tn Ib y13 : Int) : ∃ y, bZ a b c d x9 yu Tn Ib y13 = some y ∧ (y = 0 → (a.args.length : Int) = yu) := by
  unfold bZ
  cases decide ((a.op : Int) = 12) with
  | true => exact Xq x9 a b Ib c y13 yu d 0
  | false => exact Xq x9 a b Ib c y13 yu d Tn
def M5 (a : Ins) (r : Option Int) : Prop := ∃ y, r = some y ∧ (y = 0 → a.args.length ≤ 3)
theorem Ku (a : Ins) (b : Int) (c : List bN) (d : Int) (x9 : Bool) {yu : Int} (Tn Ib y13 : Int) (h : yu ≤ 3) : M5 a (bZ a b c d x9 yu Tn Ib y13) := by
  obtain ⟨y, h1, h2⟩ := j4_tot a b c d x9 yu Tn Ib y13
  exact ⟨y, h1, fun h0 => by have := h2 h0; omega⟩
theorem pE {a : Ins} {c : Bool} {x y : Option Int} (h1 : M5 a x) (h2 : M5 a y) : M5 a (bif c then x else y) := by
  cases c
  · exact h2
  · exact h1
theorem JN {a : Ins} {e : Int} (h : e ≠ 0) : M5 a (some e) := ⟨e, rfl, fun h0 => absurd h0 h⟩
theorem Ul (a : Ins) (b : Int) (c : List bN) (d e : Int) (hp : ∀ x ∈ c, x.params ≤ 3) : M5 a (gU a b c d e) := by
  unfold gU
  refine pE (JN (by decide)) (pE (JN (by decide)) (pE (Ku _ _ _ _ _ _ _ _ (by decide)) (pE (Ku _ _ _ _ _ _ _ _ (by decide)) ?_)))
  have k12 : ∀ x, M5 a (dG a b c d x) := fun x => by
    unfold dG
    exact pE (Ku _ _ _ _ _ _ _ _ (by decide)) (pE (Ku _ _ _ _ _ _ _ _ (by decide)) (Ku _ _ _ _ _ _ _ _ (by decide)))
  have k11 : ∀ x, M5 a (dK a b c d e x) := fun x => by
    unfold dK
    refine pE (Ku _ _ _ _ _ _ _ _ (by decide)) ?_
    cases decide ((a.op : Int) = 7) with
    | false =>
      rw [cond_false]
      exact pE (k12 _) (pE (k12 _) (k12 _))
    | true =>
      simp only [cond_true]
      rw [ER]
      cases hb : aT a.b (c.length : Int) with
      | false => exact JN (by decide)
      | true =>
        simp only [Bool.not_true, cond_false]
        unfold aT at hb
        simp only [Bool.and_eq_true, decide_eq_true_eq] at hb
        obtain ⟨n, hn⟩ := Int.eq_ofNat_of_zero_le hb.1
        rw [hn, xE (by omega), Option.bind_some]
        exact Ku _ _ _ _ _ _ _ _ (hp _ (List.getElem_mem _))
  have k10 : ∀ x, M5 a (dL a b c d e x) := fun x => by
    unfold dL
    refine pE (Ku _ _ _ _ _ _ _ _ (by decide)) ?_
    cases decide ((a.op : Int) = 3) with
    | false =>
      rw [cond_false]
      exact pE (k11 _) (k11 _)
    | true =>
      simp only [cond_true]
      by_cases h1 : a.args.length = 1
      · rw [dT (show ((a.args.length : Int) : Int) = 1 by omega)]
        obtain ⟨y, hy⟩ := RQ.1 h1
        simp only [cond_true]
        rw [show idx a.args 0 = some y by rw [hy, idx0], Option.bind_some]
        exact Ku _ _ _ _ _ _ _ _ (by decide)
      · rw [dF (show ¬ ((a.args.length : Int) : Int) = 1 by omega)]
        exact Ku _ _ _ _ _ _ _ _ (by decide)
  exact pE (k10 _) (k10 _)
def Good (a : List bN) : Prop := a.length ≤ 4 ∧ ∀ x ∈ a, qR x ∧ ∀ c ∈ x.code, c.args.length ≤ 3
theorem OT {i : Nat} {x : bN} (h : yZ i x = 0) : x.params ≤ 3 ∧ qR x := by
  unfold yZ at h
  split at h
  · split at h
    · exact ⟨by omega, by unfold qR; omega⟩
    · cases h
  · cases h
theorem JO : ∀ (p : List bN) (i : Nat), heads i p = 0 → ∀ x ∈ p, x.params ≤ 3 ∧ qR x
  | [], _, _, x, hx => by cases hx
  | y :: p, i, h, x, hx => by
    unfold heads at h
    split at h
    · rename_i h1; exact absurd h h1
    · rename_i h1
      rcases List.mem_cons.1 hx with rfl | hx
      · exact OT (Decidable.not_not.1 h1)
      · exact JO p (i + 1) h x hx
theorem RS (a : List bN) (x : bN) (k : Unit → Option Int) (hp : ∀ x ∈ a, x.params ≤ 3) (Q : Prop) (hk : ∃ y, k () = some y ∧ (y = 0 → Q)) : ∀ (l : List Ins) (i : Int), ∃ y, eO (fO a x) k i l () = some y ∧ (y = 0 → Q ∧ ∀ c ∈ l, c.args.length ≤ 3)
  | [], i => by
    obtain ⟨y, h1, h2⟩ := hk
    exact ⟨y, h1, fun h => ⟨h2 h, by intro c hc; cases hc⟩⟩
  | c :: l, i => by
    obtain ⟨y, h1, h2⟩ := RS a x k hp Q hk l (i + 1)
    have e1 : eO (fO a x) k i (c :: l) () = fO a x i c () (eO (fO a x) k (i + 1) l) := rfl
    rw [e1]
    unfold fO
    obtain ⟨z, g1, g2⟩ := Ul c i a x.regs (x.code.length : Int) hp
    rw [g1, Option.bind_some]
    by_cases hz : z = 0
    · rw [dF (by omega), cond_false]
      refine ⟨y, h1, fun h => ⟨(h2 h).1, fun d hd => ?_⟩⟩
      rcases List.mem_cons.1 hd with rfl | hd
      · exact g2 hz
      · exact (h2 h).2 d hd
    · rw [dT hz, cond_true]
      exact ⟨z, rfl, fun h => absurd h hz⟩
theorem RU (a : List bN) (hp : ∀ x ∈ a, x.params ≤ 3 ∧ qR x) : ∀ l : List bN, (∀ x ∈ l, x.params ≤ 3 ∧ qR x) → ∃ y, each (jY a) nI l () = some y ∧ (y = 0 → ∀ x ∈ l, ∀ c ∈ x.code, c.args.length ≤ 3)
  | [], _ => ⟨0, rfl, fun _ x hx => by cases hx⟩
  | x :: l, hl => by
    obtain ⟨y, h1, h2⟩ := RU a hp l (fun z hz => hl z (List.mem_cons_of_mem _ hz))
    rw [dI]
    unfold jY
    have hx := hl x (by simp)
    obtain ⟨z, g1, g2⟩ := RS a x (nH x (each (jY a) nI l)) (fun x hx => (hp x hx).1) (∀ x ∈ l, ∀ c ∈ x.code, c.args.length ≤ 3) (by
      unfold nH
      have h3 := hx.2
      unfold qR at h3
      rw [gI, show ((x.code.length : Int) - 1) = ((x.code.length - 1 : Nat) : Int) by omega, xE (by omega), Option.bind_some]
      cases (decide ((x.code[x.code.length - 1].op : Int) ≠ 8) && decide ((x.code[x.code.length - 1].op : Int) ≠ 12)) with
      | true => exact ⟨4, rfl, fun h => absurd h (by decide)⟩
      | false => exact ⟨y, h1, h2⟩) x.code 0
    refine ⟨z, g1, fun h => ?_⟩
    intro w hw
    rcases List.mem_cons.1 hw with rfl | hw
    · exact (g2 h).2
    · exact (g2 h).1 w hw
theorem Um (a : List bN) : ∃ y, qw a = some y ∧ (y = 0 → Good a) := by
  unfold qw
  generalize hc : (decide (((a.length : Int) : Int) = 0) || decide ((4 : Int) < (a.length : Int))) = C
  cases C with
  | true => exact ⟨2, rfl, fun h => absurd h (by decide)⟩
  | false =>
    simp only [Bool.or_eq_false_iff, decide_eq_false_iff_not] at hc
    have h1 : eO iP (lJ a) 0 a () = _ := JM (lJ a) a 0
    rw [cond_false, h1]
    by_cases hz : heads 0 a = 0
    · rw [if_neg (by omega)]
      have hp := JO a 0 hz
      obtain ⟨y, g1, g2⟩ := RU a hp a hp
      exact ⟨y, g1, fun h => ⟨by omega, fun x hx => ⟨(hp x hx).2, g2 h x hx⟩⟩⟩
    · rw [if_pos hz]
      exact ⟨_, rfl, fun h => absurd h hz⟩
def RV (a : List bN) : Int := (qw a).getD 0
theorem Xr (a : List bN) : qw a = some (RV a) := by
  obtain ⟨y, h, _⟩ := Um a
  unfold RV
  rw [h]; rfl
def wU (R x : Int) : Prop := 0 ≤ x ∧ x < R
def Bv (a : List bN) (R L : Int) (c : Ins) : Prop :=
  (c.op = 1 ∧ wU R c.a ∧ (-1000000000 ≤ c.b ∧ c.b ≤ 1000000000)) ∨
  (c.op = 2 ∧ wU R c.a ∧ wU R c.b) ∨
  (c.op = 3 ∧ wU R c.a ∧ wU R c.b ∧ wU R c.c ∧ ∃ n, c.args = [n] ∧ 1 ≤ n ∧ n ≤ 5) ∨
  ((c.op = 4 ∨ c.op = 6) ∧ wU R c.a ∧ wU R c.b ∧ (0 ≤ c.c ∧ c.c < 4)) ∨
  (c.op = 5 ∧ wU R c.a ∧ (1 ≤ c.b ∧ c.b ≤ 4)) ∨
  (c.op = 7 ∧ wU R c.a ∧ (∃ p, idx a c.b = some p ∧ (c.args.length : Int) = p.params) ∧ ∀ x ∈ c.args, wU R x) ∨
  ((c.op = 8 ∨ c.op = 9 ∨ c.op = 11) ∧ wU R c.a) ∨
  c.op = 10 ∨
  (c.op = 12 ∧ (0 ≤ c.b ∧ c.b < L)) ∨
  (c.op = 13 ∧ wU R c.a ∧ (0 ≤ c.b ∧ c.b < L))
theorem RX (R : Int) : ∀ l : List Int, each (mK R) rH l () = some 0 → ∀ x ∈ l, wU R x
  | [], _, x, hx => by cases hx
  | y :: l, h, x, hx => by
    rw [dI] at h
    unfold mK at h
    cases e : (!(decide ((0 : Int) ≤ y) && decide ((y : Int) < R))) with
    | true => rw [e, cond_true] at h; cases h
    | false =>
      rw [e, cond_false] at h
      rcases List.mem_cons.1 hx with rfl | hx
      · simp at e; exact e
      · exact RX R l h x hx
theorem YR {c : Ins} {i : Int} {a : List bN} {R L : Int} (h : gU c i a R L = some 0) : Bv a R L c := by
  obtain ⟨op, ca, cb, cc, args⟩ := c
  by_cases h1 : op = 1
  · subst h1
    simp [gU, bK, dN, eZ, fI, eB, bZ, dS, dL, dK, dG, Bool.cond_eq_ite] at h
    simp [Bv, wU]
    (repeat (split at h; · simp at h))
    omega
  by_cases h2 : op = 2
  · subst h2
    simp [gU, bK, dN, eZ, fI, eB, bZ, dS, dL, dK, dG, Bool.cond_eq_ite] at h
    simp [Bv, wU]
    (repeat (split at h; · simp at h))
    omega
  by_cases h3 : op = 3
  · subst h3
    simp [gU, bK, dN, eZ, fI, eB, bZ, dS, dL, dK, dG, Bool.cond_eq_ite] at h
    simp [Bv, wU]
    by_cases hl : args.length = 1
    · obtain ⟨y, rfl⟩ := RQ.1 hl
      simp [idx0] at h
      split at h
      · simp at h
      split at h
      · simp at h
      refine ⟨by omega, by omega, by omega, y, rfl, by omega, by omega⟩
    · exfalso
      rw [if_neg (show ¬ ((args.length : Int) = 1) by omega)] at h
      split at h <;> simp at h
  by_cases h4 : op = 4
  · subst h4
    simp [gU, bK, dN, eZ, fI, eB, bZ, dS, dL, dK, dG, Bool.cond_eq_ite] at h
    simp [Bv, wU]
    (repeat (split at h; · simp at h))
    omega
  by_cases h5 : op = 5
  · subst h5
    simp [gU, bK, dN, eZ, fI, eB, bZ, dS, dL, dK, dG, Bool.cond_eq_ite] at h
    simp [Bv, wU]
    (repeat (split at h; · simp at h))
    omega
  by_cases h6 : op = 6
  · subst h6
    simp [gU, bK, dN, eZ, fI, eB, bZ, dS, dL, dK, dG, Bool.cond_eq_ite] at h
    simp [Bv, wU]
    (repeat (split at h; · simp at h))
    omega
  by_cases h7 : op = 7
  · subst h7
    simp [gU, bK, dN, eZ, fI, eB, bZ, dS, dL, dK, dG, Bool.cond_eq_ite] at h
    simp [Bv, wU]
    split at h
    · simp at h
    split at h
    · simp at h
    obtain ⟨p, hp, h⟩ := aJ h
    (repeat (split at h; · simp at h))
    refine ⟨by omega, ⟨p, hp, by omega⟩, fun x hx => RX R args h x hx⟩
  by_cases h8 : op = 8
  · subst h8
    simp [gU, bK, dN, eZ, fI, eB, bZ, dS, dL, dK, dG, Bool.cond_eq_ite] at h
    simp [Bv, wU]
    (repeat (split at h; · simp at h))
    omega
  by_cases h9 : op = 9
  · subst h9
    simp [gU, bK, dN, eZ, fI, eB, bZ, dS, dL, dK, dG, Bool.cond_eq_ite] at h
    simp [Bv, wU]
    (repeat (split at h; · simp at h))
    omega
  by_cases h10 : op = 10
  · subst h10
    simp [Bv, wU]
  by_cases h11 : op = 11
  · subst h11
    simp [gU, bK, dN, eZ, fI, eB, bZ, dS, dL, dK, dG, Bool.cond_eq_ite] at h
    simp [Bv, wU]
    (repeat (split at h; · simp at h))
    omega
  by_cases h12 : op = 12
  · subst h12
    simp [gU, bK, dN, eZ, fI, eB, bZ, dS, dL, dK, dG, Bool.cond_eq_ite] at h
    simp [Bv, wU]
    (repeat (split at h; · simp at h))
    omega
  by_cases h13 : op = 13
  · subst h13
    simp [gU, bK, dN, eZ, fI, eB, bZ, dS, dL, dK, dG, Bool.cond_eq_ite] at h
    simp [Bv, wU]
    (repeat (split at h; · simp at h))
    omega
  · exfalso
    simp [gU, bK, dN, eZ, fI, eB, bZ, dS, dL, dK, dG, Bool.cond_eq_ite, *] at h
structure mg (a : List bN) : Prop where
  many : 1 ≤ a.length ∧ a.length ≤ 4
  head : ∀ (i : Nat) x, a[i]? = some x → (0 ≤ x.params ∧ x.params ≤ 3) ∧ (1 ≤ x.regs ∧ x.params ≤ x.regs ∧ x.regs ≤ 40) ∧ ¬ (i = 0 ∧ x.params ≠ 0) ∧ qR x
  last : ∀ x ∈ a, ∃ c, idx x.code ((x.code.length : Int) - 1) = some c ∧ (c.op = 8 ∨ c.op = 12)
  ins : ∀ x ∈ a, ∀ c ∈ x.code, Bv a x.regs x.code.length c
theorem Lt : ∀ (p : List bN) (j : Nat), heads j p = 0 → ∀ (i : Nat) x, p[i]? = some x → yZ (j + i) x = 0
  | [], j, _, i, x, hx => by simp at hx
  | y :: p, j, h, i, x, hx => by
    unfold heads at h
    split at h
    · rename_i h1; exact absurd h h1
    · rename_i h1
      cases i with
      | zero => simp at hx; subst hx; exact Decidable.not_not.1 h1
      | succ i => rw [show j + (i + 1) = (j + 1) + i by omega]; exact Lt p (j + 1) h i x (by simpa using hx)
theorem RY (a : List bN) (x : bN) (k : Unit → Option Int) : ∀ (l : List Ins) (i : Int), eO (fO a x) k i l () = some 0 → k () = some 0 ∧ ∀ c ∈ l, Bv a x.regs x.code.length c
  | [], i, h => ⟨h, fun c hc => by cases hc⟩
  | y :: l, i, h => by
    have e1 : eO (fO a x) k i (y :: l) () = fO a x i y () (eO (fO a x) k (i + 1) l) := rfl
    rw [e1] at h
    unfold fO at h
    obtain ⟨z, hz, h⟩ := aJ h
    by_cases z0 : z = 0
    · subst z0
      rw [dF (by simp), cond_false] at h
      obtain ⟨h1, h2⟩ := RY a x k l (i + 1) h
      refine ⟨h1, fun c hc => ?_⟩
      rcases List.mem_cons.1 hc with rfl | hc
      · exact YR hz
      · exact h2 c hc
    · rw [dT z0, cond_true] at h
      exact absurd (fJ h) z0
theorem RZ (a : List bN) : ∀ l : List bN, each (jY a) nI l () = some 0 → ∀ x ∈ l, (∃ c, idx x.code ((x.code.length : Int) - 1) = some c ∧ (c.op = 8 ∨ c.op = 12)) ∧ ∀ c ∈ x.code, Bv a x.regs x.code.length c
  | [], _, x, hx => by cases hx
  | y :: l, h, x, hx => by
    rw [dI] at h
    unfold jY at h
    obtain ⟨h1, h2⟩ := RY a y _ y.code 0 h
    unfold nH at h1
    obtain ⟨_, h1⟩ := bg h1
    obtain ⟨c, hc, h1⟩ := aJ h1
    cases e : (decide ((c.op : Int) ≠ 8) && decide ((c.op : Int) ≠ 12)) with
    | true => rw [e, cond_true] at h1; cases h1
    | false =>
      rw [e, cond_false] at h1
      rcases List.mem_cons.1 hx with rfl | hx
      · exact ⟨⟨c, hc, by simp only [Bool.and_eq_false_iff, decide_eq_false_iff_not, Decidable.not_not] at e; exact e⟩, h2⟩
      · exact RZ a l h1 x hx
theorem ES {a : List bN} (h : RV a = 0) : mg a := by
  have h0 := Xr a
  rw [h] at h0
  unfold qw at h0
  generalize hc : (decide (((a.length : Int) : Int) = 0) || decide ((4 : Int) < (a.length : Int))) = C at h0
  cases C with
  | true => cases h0
  | false =>
    simp only [Bool.or_eq_false_iff, decide_eq_false_iff_not] at hc
    have h1 : eO iP (lJ a) 0 a () = _ := JM (lJ a) a 0
    rw [cond_false, h1] at h0
    by_cases hz : heads 0 a = 0
    · rw [if_neg (by omega)] at h0
      have hb := RZ a a h0
      refine ⟨by omega, fun i x hx => ?_, fun x hx => (hb x hx).1, fun x hx => (hb x hx).2⟩
      have := Lt a 0 hz i x hx
      rw [Nat.zero_add] at this
      unfold yZ at this
      split at this
      · rename_i g
        split at this
        · rename_i g2; exact ⟨g.1, g.2.1, g.2.2, g2⟩
        · cases this
      · cases this
    · rw [if_pos hz] at h0
      exact absurd (fJ h0) hz
end Go.Proofs.YtfclkapelkhlpaaGreatDoor
namespace Go.Proofs.YtfclkapelkhlpaaGreatDoor
open Go Go.Proofs Go.LX
theorem iT {α σ ρ : Type} {body : Int → α → σ → (σ → ρ) → ρ} {k : σ → ρ} (i : Int) (x : α) (l : List α) (s : σ) : eO body k i (x :: l) s = body i x s (eO body k (i + 1) l) := rfl
theorem Lu {σ ρ : Type} {body : Int → σ → (σ → ρ) → ρ} {k : σ → ρ} (i : Int) (m : Nat) (s : σ) : upto body k i (m + 1) s = body i s (upto body k (i + 1) m) := rfl
theorem ET {σ β : Type} {body : σ → (σ → Option β) → Option β} {m : Nat} {s : σ} : again body (m + 1) s = body s (again body m) := rfl
def ib (n : Nat) (v : Val) : Prop := (v.kind = 0 ∧ v.n = 0) ∨ (v.kind = 1 ∧ -1000000000 ≤ v.n ∧ v.n ≤ 1000000000) ∨ (v.kind = 2 ∧ 0 ≤ v.n ∧ v.n < n)
instance (n : Nat) (v : Val) : Decidable (ib n v) := inferInstanceAs (Decidable (_ ∨ _))
theorem Cm (n : Nat) (v : Val) : cz v (n : Int) = 0 ↔ ib n v := by
  obtain ⟨k, m⟩ := v
  simp only [cz, ib, Bool.cond_eq_ite, Bool.or_eq_true, decide_eq_true_eq]
  constructor
  · intro h
    (repeat' split at h) <;> first | omega | (exfalso; omega)
  · intro h
    rcases h with ⟨h1, h2⟩ | ⟨h1, h2⟩ | ⟨h1, h2⟩
    · rw [if_pos h1, if_neg (by omega)]
    · rw [if_neg (by omega), if_pos h1, if_neg (by omega)]
    · rw [if_neg (by omega), if_neg (by omega), if_pos h1, if_neg (by omega)]
theorem OU (v : Val) (n : Int) : dO v n = cz v n := by
  obtain ⟨k, m⟩ := v
  simp only [cz, dO, mf, aX, eY, aT, Bool.cond_eq_ite, Bool.or_eq_true, Bool.and_eq_true, Bool.not_eq_true', decide_eq_true_eq, decide_eq_false_iff_not, Bool.and_eq_false_iff]
  (repeat' split) <;> first | rfl | (exfalso; omega)
def mY (l : List (List Val)) : Prop := l.length ≤ 24 ∧ ∀ c ∈ l, (1 ≤ c.length ∧ c.length ≤ 4) ∧ ∀ v ∈ c, ib l.length v
theorem OV (a : List (List Val)) : kG a = dJ a := by
  unfold kG dJ
  have k1 : ∀ (l : List Val) (f : Unit → Int), each (jv a) (jw f) l () = each (gX a) (gu f) l () := by
    intro l f
    induction l with
    | nil => rfl
    | cons x l ih =>
      show (bif decide ((dO x (a.length : Int) : Int) ≠ 0) then dO x (a.length : Int) else each (jv a) (jw f) l ()) = (bif decide ((cz x (a.length : Int) : Int) ≠ 0) then cz x (a.length : Int) else each (gX a) (gu f) l ())
      rw [OU, ih]
  have k2 : ∀ l : List (List Val), each (jy a) jA l () = each (iN a) gY l () := by
    intro l
    induction l with
    | nil => rfl
    | cons x l ih =>
      show (bif (!(aX (x.length : Int) 1 4)) then 2 else each (jv a) (jw (each (jy a) jA l)) x ()) = (bif (decide (((x.length : Int) : Int) = 0) || decide ((4 : Int) < (x.length : Int))) then 2 else each (gX a) (gu (each (iN a) gY l)) x ())
      have e : (!(aX (x.length : Int) 1 4)) = (decide (((x.length : Int) : Int) = 0) || decide ((4 : Int) < (x.length : Int))) := by
        unfold aX; rw [Bool.eq_iff_iff]; simp only [Bool.or_eq_true, Bool.not_eq_true', Bool.and_eq_false_iff, decide_eq_true_eq, decide_eq_false_iff_not]; omega
      rw [e, k1]
      have : each (jy a) jA l = each (iN a) gY l := by funext u; exact ih
      rw [this]
  rw [k2]
theorem QZ (a : List (List Val)) : dJ a = 0 ↔ mY a := by
  have k1 : ∀ (l : List Val) (f : Unit → Int), each (gX a) (gu f) l () = 0 ↔ (∀ v ∈ l, ib a.length v) ∧ f () = 0 := by
    intro l f
    induction l with
    | nil => simp [gG, gu]
    | cons x l ih =>
      show (bif decide ((cz x (a.length : Int) : Int) ≠ 0) then cz x (a.length : Int) else each (gX a) (gu f) l ()) = 0 ↔ _
      by_cases h : cz x (a.length : Int) = 0
      · rw [dF (by omega), cond_false, ih]
        have := (Cm _ _).1 h
        simp [this]
      · rw [dT h, cond_true]
        have h2 : ¬ ib a.length x := fun e => h ((Cm _ _).2 e)
        simp [h, h2]
  have k2 : ∀ l : List (List Val), each (iN a) gY l () = 0 ↔ ∀ c ∈ l, (1 ≤ c.length ∧ c.length ≤ 4) ∧ ∀ v ∈ c, ib a.length v := by
    intro l
    induction l with
    | nil => simp [gG, gY]
    | cons x l ih =>
      show (bif (decide (((x.length : Int) : Int) = 0) || decide ((4 : Int) < (x.length : Int))) then 2 else each (gX a) (gu (each (iN a) gY l)) x ()) = 0 ↔ _
      by_cases h : 1 ≤ x.length ∧ x.length ≤ 4
      · rw [show (decide (((x.length : Int) : Int) = 0) || decide ((4 : Int) < (x.length : Int))) = false by simp only [Bool.or_eq_false_iff, decide_eq_false_iff_not]; omega, cond_false, k1, ih]
        simp [h]
      · rw [show (decide (((x.length : Int) : Int) = 0) || decide ((4 : Int) < (x.length : Int))) = true by simp only [Bool.or_eq_true, decide_eq_true_eq]; omega, cond_true]
        simp [h]
  unfold dJ mY
  by_cases h : a.length ≤ 24
  · rw [dF (by omega), cond_false, k2]; simp [h]
  · rw [dT (by omega), cond_true]; simp [h]
structure y5 (a : List bN) (n : Nat) (f : LX.Frame) (x : bN) : Prop where
  proc : idx a f.proc = some x
  at_ : 0 ≤ f.at_ ∧ f.at_ < x.code.length
  regs : (f.regs.length : Int) = x.regs
  vals : ∀ v ∈ f.regs, ib n v
def jB (a : List bN) (n : Nat) : Int → List LX.Frame → Prop
  | _, [] => True
  | ahead, f :: l => (∃ x, y5 a n f x) ∧ (0 ≤ f.mH ∧ f.mH < ahead) ∧ jB a n f.regs.length l
structure pF (a : List bN) (s : LX.State) : Prop where
  status : 0 ≤ s.status ∧ s.status ≤ 3
  aK : -1000000000 ≤ s.aK ∧ s.aK ≤ 1000000000
  stay : s.status ≠ 3 → s.aK = 0
  ended : s.status = 1 ↔ s.frames = []
  many : s.frames.length ≤ 10
  cells : mY s.cells
  frames : jB a s.cells.length 1 s.frames
end Go.Proofs.YtfclkapelkhlpaaGreatDoor
namespace Go.Proofs.YtfclkapelkhlpaaGreatDoor
open Go Go.Proofs Go.LX
def ahead (pre : List LX.Frame) : Int := match pre.getLast? with | none => 1 | some f => f.regs.length
theorem Lv : ahead [] = 1 := rfl
theorem Ee (pre : List LX.Frame) (f : LX.Frame) : ahead (pre ++ [f]) = f.regs.length := by simp [ahead]
theorem Gx (b : LX.State) (f : LX.Frame) (n1 : Unit → Option Int) (n2 : Int → Option Int) (hn : n1 () = n2 f.regs.length) : ∀ l : List Val, each (mD b) (mE n1) l () = each (lL b) (lM n2 f) l ()
  | [] => hn
  | x :: l => by
    show (bif decide ((cz x (b.cells.length : Int) : Int) ≠ 0) then some (cz x (b.cells.length : Int)) else each (mD b) (mE n1) l ()) = (bif decide ((dO x (b.cells.length : Int) : Int) ≠ 0) then some (dO x (b.cells.length : Int)) else each (lL b) (lM n2 f) l ())
    rw [OU, Gx b f n1 n2 hn l]
theorem OW (b : LX.State) (n1 : Unit → Option Int) (Q : Prop) (hn : ∃ y, n1 () = some y ∧ (y = 0 ↔ Q)) : ∀ l : List Val, ∃ y, each (mD b) (mE n1) l () = some y ∧ (y = 0 ↔ (∀ v ∈ l, ib b.cells.length v) ∧ Q)
  | [] => by obtain ⟨y, h1, h2⟩ := hn; exact ⟨y, h1, by simp [h2]⟩
  | x :: l => by
    obtain ⟨y, h1, h2⟩ := OW b n1 Q hn l
    have e : each (mD b) (mE n1) (x :: l) () = (bif decide ((cz x (b.cells.length : Int) : Int) ≠ 0) then some (cz x (b.cells.length : Int)) else each (mD b) (mE n1) l ()) := rfl
    rw [e]
    by_cases h : cz x (b.cells.length : Int) = 0
    · rw [dF (by omega), cond_false]
      have := (Cm _ _).1 h
      exact ⟨y, h1, by rw [h2]; simp [this]⟩
    · rw [dT h, cond_true]
      refine ⟨_, rfl, ?_⟩
      have h3 : ¬ ib b.cells.length x := fun e => h ((Cm _ _).2 e)
      simp [h, h3]
theorem GQ (a : List bN) (b : LX.State) (hm : b.frames.length ≤ 10) : ∀ (l pre : List LX.Frame), b.frames = pre ++ l →
    eO (qN a b) uw (pre.length : Int) l () = each (eG a b) iD l (ahead pre)
  | [], pre, h => rfl
  | f :: l, pre, h => by
    have ih := GQ a b hm l (pre ++ [f]) (by simpa using h)
    rw [Ee] at ih
    have hi : (((pre ++ [f]).length : Nat) : Int) = (pre.length : Int) + 1 := by simp
    rw [hi] at ih
    rw [iT, dI]
    generalize eO (qN a b) uw ((pre.length : Int) + 1) l = K1 at ih ⊢
    generalize each (eG a b) iD l = K2 at ih ⊢
    unfold qN eG
    have hl : pre.length ≤ 10 := by have := congrArg List.length h; simp at this; omega
    have e1 : (decide ((f.proc : Int) < 0) || decide (((a.length : Int) : Int) ≤ f.proc)) = !aT f.proc (a.length : Int) := ER _ _
    rw [e1]
    cases hp : aT f.proc (a.length : Int) with
    | false => rfl
    | true =>
      simp only [Bool.not_true, cond_false]
      cases hx : idx a f.proc with
      | none => rfl
      | some x =>
        simp only [bnd]
        cases ha : aT f.at_ (x.code.length : Int) with
        | false =>
          rw [show (((decide ((f.at_ : Int) < 0) || decide (((x.code.length : Int) : Int) ≤ f.at_)) || decide ((f.mH : Int) < 0)) || (decide ((pre.length : Int) = 0) && decide ((f.mH : Int) ≠ 0))) = true by
            have := ER f.at_ (x.code.length : Int)
            rw [ha] at this
            rw [this]; rfl]
          rfl
        | true =>
          have h3 := ER f.at_ (x.code.length : Int)
          rw [ha] at h3
          rw [h3]
          simp only [Bool.not_true, Bool.false_or, cond_false]
          have key : ∀ t, qM f x b K1 t = fT a f b K2 t := by
            intro t
            unfold qM fT
            rw [hx, bnd, Gx b f _ _ ih]
          simp only [key]
          rcases List.eq_nil_or_concat pre with rfl | ⟨q, g, rfl⟩
          · rw [Lv]
            by_cases ht : f.mH = 0
            · rw [show (decide ((f.mH : Int) < 0) || (decide ((([] : List LX.Frame).length : Int) = 0) && decide ((f.mH : Int) ≠ 0))) = false by simp [ht], cond_false, dF (by simp), cond_false, show (!aT f.mH 1) = false by simp [ht, aT]]
            · rw [show (decide ((f.mH : Int) < 0) || (decide ((([] : List LX.Frame).length : Int) = 0) && decide ((f.mH : Int) ≠ 0))) = true by simp [ht], cond_true, show (!aT f.mH 1) = true by simp [aT]; omega]
          · rw [List.concat_eq_append] at *
            rw [Ee]
            have hlen : ((q ++ [g]).length : Int) = (q.length : Int) + 1 := by simp
            rw [hlen, show (decide ((q.length : Int) + 1 = 0)) = false from dF (by omega), Bool.false_and, Bool.or_false]
            by_cases ht : f.mH < 0
            · rw [dT ht, cond_true, show (!aT f.mH (g.regs.length : Int)) = true by simp [aT]; omega]
            · rw [dF ht, cond_false, dT (by omega), cond_true, gI (by omega) (by simp at hl; omega), show (q.length : Int) + 1 - 1 = ((q.length : Nat) : Int) by omega, mR, h]
              simp only [List.append_assoc, List.getElem?_append_right (Nat.le_refl _), Nat.sub_self, List.cons_append, List.nil_append, List.getElem?_cons_zero, bnd]
              congr 1
              rw [Bool.eq_iff_iff]; simp [aT]; omega
theorem JQ (a : List bN) (b : LX.State) : xN a b = oU a b := by
  unfold xN oU
  have e1 : (((decide ((b.status : Int) < 0) || decide ((3 : Int) < b.status)) || decide ((b.aK : Int) < -1000000000)) || decide ((1000000000 : Int) < b.aK)) = ((!(aX b.status 0 3)) || (!(eY b.aK))) := by
    unfold eY aX; rw [Bool.eq_iff_iff]; simp only [Bool.or_eq_true, Bool.not_eq_true', Bool.and_eq_false_iff, decide_eq_true_eq, decide_eq_false_iff_not]; omega
  have e2 : ((decide ((b.status : Int) ≠ 3) && decide ((b.aK : Int) ≠ 0)) || (decide ((b.status : Int) = 1) != decide (((b.frames.length : Int) : Int) = 0))) = (((decide ((b.aK : Int) ≠ 0) && decide ((b.status : Int) ≠ 3)) || (decide ((b.status : Int) = 1) && decide ((0 : Int) < (b.frames.length : Int)))) || (decide ((b.status : Int) ≠ 1) && decide (((b.frames.length : Int) : Int) = 0))) := by
    by_cases h1 : b.status = 1 <;> by_cases h2 : b.frames.length = 0 <;> by_cases h3 : b.status = 3 <;> by_cases h4 : b.aK = 0 <;> simp [h1, h2, h3, h4] <;> omega
  rw [e1, e2, OV]
  by_cases h : b.frames.length ≤ 10
  · have := GQ a b h b.frames [] rfl
    rw [Lv] at this
    rw [← this]; rfl
  · rw [show (decide ((10 : Int) < (b.frames.length : Int))) = true from dT (by omega)]
    rfl
theorem JR (a : List bN) (b : LX.State) : ∀ (l : List LX.Frame) (t : Int), ∃ y, each (eG a b) iD l t = some y ∧ (y = 0 ↔ jB a b.cells.length t l)
  | [], t => ⟨0, rfl, by simp [jB]⟩
  | f :: l, t => by
    obtain ⟨y, h1, h2⟩ := JR a b l f.regs.length
    rw [dI]
    generalize each (eG a b) iD l = K2 at h1 ⊢
    unfold eG
    cases hp : aT f.proc (a.length : Int) with
    | false =>
      refine ⟨5, rfl, ?_⟩
      have : ¬ jB a b.cells.length t (f :: l) := by
        rintro ⟨⟨x, g⟩, -, -⟩
        have := aH g.proc
        have h3 := (List.getElem?_eq_some_iff.1 this.2).1
        unfold aT at hp
        simp only [Bool.and_eq_false_iff, decide_eq_false_iff_not] at hp
        omega
      simp [this]
    | true =>
      unfold aT at hp
      simp only [Bool.and_eq_true, decide_eq_true_eq] at hp
      simp only [Bool.not_true, cond_false]
      obtain ⟨n, hn⟩ := Int.eq_ofNat_of_zero_le hp.1
      have hx : idx a f.proc = some (a[n]'(by omega)) := by rw [hn, xE (by omega)]
      generalize a[n]'(by omega) = x at hx
      rw [hx, bnd]
      have kB : ∃ y, fT a f b K2 true = some y ∧ y ≠ 0 := ⟨3, rfl, by decide⟩
      have uniq : ∀ z, y5 a b.cells.length f z → z = x := fun z g => by have := g.proc; rw [hx] at this; exact (fJ this).symm
      cases ha : aT f.at_ (x.code.length : Int) with
      | false =>
        obtain ⟨y, g1, g2⟩ := kB
        refine ⟨y, g1, ?_⟩
        have : ¬ jB a b.cells.length t (f :: l) := by
          rintro ⟨⟨z, g⟩, -, -⟩
          have := uniq z g; subst this
          have := g.at_
          unfold aT at ha
          simp only [Bool.and_eq_false_iff, decide_eq_false_iff_not] at ha
          omega
        simp [this, g2]
      | true =>
        simp only [Bool.not_true, cond_false]
        cases ht : aT f.mH t with
        | false =>
          obtain ⟨y, g1, g2⟩ := kB
          refine ⟨y, g1, ?_⟩
          have : ¬ jB a b.cells.length t (f :: l) := by
            rintro ⟨⟨z, g⟩, h3, -⟩
            unfold aT at ht
            simp only [Bool.and_eq_false_iff, decide_eq_false_iff_not] at ht
            omega
          simp [this, g2]
        | true =>
          simp only [Bool.not_true]
          unfold fT
          rw [hx, cond_false, bnd]
          unfold aT at ha ht
          simp only [Bool.and_eq_true, decide_eq_true_eq] at ha ht
          by_cases hr : (f.regs.length : Int) = x.regs
          · rw [dF (by omega), cond_false, ← Gx b f (fun _ => K2 f.regs.length) _ rfl]
            obtain ⟨z, g1, g2⟩ := OW b (fun _ => K2 f.regs.length) _ ⟨y, h1, h2⟩ f.regs
            refine ⟨z, g1, g2.trans ⟨fun h => ⟨⟨x, hx, ha, hr, h.1⟩, ht, h.2⟩, ?_⟩⟩
            rintro ⟨⟨z, g⟩, h3, h4⟩
            exact ⟨g.vals, h4⟩
          · rw [dT (by omega), cond_true]
            refine ⟨4, rfl, ?_⟩
            have : ¬ jB a b.cells.length t (f :: l) := by
              rintro ⟨⟨z, g⟩, -, -⟩
              have := uniq z g; subst this
              exact hr g.regs
            simp [this]
theorem JS (a : List bN) (b : LX.State) : ∃ y, xN a b = some y ∧ (y = 0 ↔ pF a b) := by
  rw [JQ]
  unfold oU
  cases c1 : ((!(aX b.status 0 3)) || (!(eY b.aK))) with
  | true =>
    refine ⟨3, rfl, ⟨fun h => absurd h (by decide), fun h => ?_⟩⟩
    unfold eY aX at c1
    simp only [Bool.or_eq_true, Bool.not_eq_true', Bool.and_eq_false_iff, decide_eq_false_iff_not] at c1
    have := h.status; have := h.aK; omega
  | false =>
    unfold eY aX at c1
    simp only [Bool.or_eq_false_iff, Bool.not_eq_false', Bool.and_eq_true, decide_eq_true_eq] at c1
    rw [cond_false]
    cases c2 : (((decide ((b.aK : Int) ≠ 0) && decide ((b.status : Int) ≠ 3)) || (decide ((b.status : Int) = 1) && decide ((0 : Int) < (b.frames.length : Int)))) || (decide ((b.status : Int) ≠ 1) && decide (((b.frames.length : Int) : Int) = 0))) with
    | true =>
      refine ⟨4, rfl, ⟨fun h => absurd h (by decide), fun h => ?_⟩⟩
      simp only [Bool.or_eq_true, Bool.and_eq_true, decide_eq_true_eq] at c2
      rcases c2 with (c2 | c2) | c2
      · exact absurd (h.stay c2.2) c2.1
      · have := h.ended.1 c2.1; rw [this] at c2; simp at c2
      · exact absurd (h.ended.2 (List.eq_nil_of_length_eq_zero (by omega))) c2.1
    | false =>
      simp only [Bool.or_eq_false_iff, Bool.and_eq_false_iff, decide_eq_false_iff_not] at c2
      rw [cond_false]
      by_cases hm : b.frames.length ≤ 10
      · rw [dF (by omega), cond_false, OV]
        by_cases hc : dJ b.cells = 0
        · rw [dF (by omega), cond_false]
          obtain ⟨y, h1, h2⟩ := JR a b b.frames 1
          refine ⟨y, h1, h2.trans ⟨fun h => ⟨by omega, by omega, fun h3 => by omega, ⟨fun h3 => ?_, fun h3 => ?_⟩, hm, (QZ _).1 hc, h⟩, fun h => h.frames⟩⟩
          · exact List.eq_nil_of_length_eq_zero (by omega)
          · rw [h3] at c2; simp at c2; omega
        · rw [dT hc, cond_true]
          exact ⟨_, rfl, ⟨fun h => absurd h hc, fun h => absurd ((QZ _).2 h.cells) hc⟩⟩
      · rw [dT (by omega), cond_true]
        exact ⟨2, rfl, ⟨fun h => absurd h (by decide), fun h => absurd h.many hm⟩⟩
def UD (a : List bN) (s : LX.State) : Int := (xN a s).getD 0
theorem ckS_eq (a : List bN) (s : LX.State) : xN a s = some (UD a s) := by obtain ⟨y, h, -⟩ := JS a s; unfold UD; rw [h]; rfl
theorem JU {a : List bN} {s : LX.State} : UD a s = 0 ↔ pF a s := by obtain ⟨y, h, h2⟩ := JS a s; unfold UD; rw [h]; exact h2
theorem Cn (a : List bN) (s : LX.State) : uy a s = some (if RV a ≠ 0 then RV a else UD a s) := by
  unfold uy
  rw [Xr, bnd]
  by_cases h : RV a = 0
  · rw [dF (by omega), cond_false, ckS_eq, bnd, if_neg (by omega)]
  · rw [dT h, cond_true, if_pos h]
end Go.Proofs.YtfclkapelkhlpaaGreatDoor
namespace Go.Proofs.YtfclkapelkhlpaaGreatDoor
open Go Go.Proofs Go.LX
theorem Xt (a b : List Val) : jS a b = some (decide (a = b)) := by
  unfold jS
  by_cases h : a.length = b.length
  · rw [dF (by omega)]
    simp only [cond_false, Int.toNat_natCast]
    rw [KH (fun x y => decide (x = y)) a b h rfl (fun i x y nx h1 h2 => by
      unfold lU
      rw [mR, mR, h1, h2]
      obtain ⟨k, n⟩ := x; obtain ⟨k2, n2⟩ := y
      by_cases e : k = k2 <;> by_cases e2 : n = n2 <;> simp [e, e2]), Eo (fun _ _ => rfl)]
  · rw [dT (by omega)]
    have : a ≠ b := fun e => h (by rw [e])
    rw [dF this]; rfl
theorem YS (a b : List (List Val)) : CZ a b = some (decide (a = b)) := by
  unfold CZ
  by_cases h : a.length = b.length
  · rw [dF (by omega), cond_false, Il (fun x y => decide (x = y)) a b h rfl (fun i x y nx h2 => by
      unfold xu
      rw [mR, h2, bnd, Xt, bnd]
      by_cases e : x = y <;> simp [e]), Eo (fun _ _ => rfl)]
  · rw [dT (by omega)]
    have : a ≠ b := fun e => h (by rw [e])
    rw [dF this]; rfl
theorem fr_eq (x y : LX.Frame) (nx : Unit → Option Bool) : (bif ((decide ((x.proc : Int) = y.proc) && decide ((x.at_ : Int) = y.at_)) && decide ((x.mH : Int) = y.mH)) then (jS x.regs y.regs).bind fun y39 => sU nx (!y39) else sU nx true) = bif decide (x = y) then nx () else some false := by
  obtain ⟨p, t, r, o⟩ := x; obtain ⟨p2, t2, r2, o2⟩ := y
  simp only [Xt, bnd, sU]
  by_cases e1 : p = p2 <;> by_cases e2 : t = t2 <;> by_cases e3 : r = r2 <;> by_cases e4 : o = o2 <;> simp [e1, e2, e3, e4]
theorem st_eq (a b : LX.State) : decide (a = b) = ((decide (a.status = b.status) && decide (a.aK = b.aK)) && (decide (a.cells = b.cells) && decide (a.frames = b.frames))) := by
  obtain ⟨f, c, s, w⟩ := a; obtain ⟨f2, c2, s2, w2⟩ := b
  rw [Bool.eq_iff_iff]; simp; constructor <;> (intro h; simp [h])
theorem YT (a b : LX.State) : EN a b = some (decide (a = b)) := by
  rw [st_eq]
  unfold EN
  cases (decide ((a.status : Int) = b.status) && decide ((a.aK : Int) = b.aK)) with
  | false => rfl
  | true =>
    rw [cond_true, YS, bnd]
    cases decide (a.cells = b.cells) with
    | false => rfl
    | true =>
      rw [cond_true]
      by_cases h : a.frames.length = b.frames.length
      · rw [dF (by omega), cond_false, Il (fun x y => decide (x = y)) a.frames b.frames h rfl (fun i x y nx h2 => by
          unfold yI
          rw [mR, h2, bnd]
          exact fr_eq x y nx), Eo (fun _ _ => rfl)]; rfl
      · rw [dT (by omega)]
        have : a.frames ≠ b.frames := fun e => h (by rw [e])
        rw [dF this]; rfl
structure Small (s : LX.State) : Prop where
  frames : s.frames.length ≤ 10
  regs : ∀ f ∈ s.frames, f.regs.length ≤ 40
  cells : s.cells.length ≤ 24
  fields : ∀ c ∈ s.cells, c.length ≤ 4
theorem uE {a : List bN} {n : Nat} : ∀ {l : List LX.Frame} {t : Int}, jB a n t l → ∀ f ∈ l, ∃ x, y5 a n f x
  | [], _, _, f, hf => by cases hf
  | g :: l, t, h, f, hf => by
    rcases List.mem_cons.1 hf with rfl | hf
    · exact h.1
    · exact uE h.2.2 f hf
theorem mg.mem {a : List bN} (h : mg a) {k : Int} {x : bN} (hx : idx a k = some x) : x ∈ a ∧ (0 ≤ x.params ∧ x.params ≤ 3) ∧ (1 ≤ x.regs ∧ x.params ≤ x.regs ∧ x.regs ≤ 40) ∧ qR x := by
  have h1 := (aH hx).2
  have := h.head _ x h1
  exact ⟨List.mem_of_getElem? h1, this.1, this.2.1, this.2.2.2⟩
theorem pF.small {a : List bN} {s : LX.State} (h : pF a s) (ha : mg a) : Small s where
  frames := h.many
  regs f hf := by
    obtain ⟨x, g⟩ := uE h.frames f hf
    have := (ha.mem g.proc).2.2.1
    have := g.regs
    omega
  cells := h.cells.1
  fields c hc := (h.cells.2 c hc).1.2
theorem EU {α : Type} {bytes : Nat} {a : List α} (h : a.length ≤ 400) (hb : bytes ≤ 48) : clone bytes a = some a := by
  have : a.length * bytes ≤ 400 * 48 := Nat.mul_le_mul h hb
  unfold clone
  exact xG ⟨by simp; omega, by simp; omega⟩
theorem Gy {ρ : Type} {body : Int → Unit → (Unit → ρ) → ρ} {k : Unit → ρ} : ∀ (m : Nat) (i : Nat), (∀ j : Nat, i ≤ j → j < i + m → ∀ nx, body (j : Int) () nx = nx ()) → upto body k (i : Int) m () = k ()
  | 0, i, _ => rfl
  | m + 1, i, h => by
    rw [Lu, h i (Nat.le_refl _) (by omega), show ((i : Int) + 1) = ((i + 1 : Nat) : Int) by omega]
    exact Gy m (i + 1) (fun j h1 h2 => h j (by omega) (by omega))
theorem OX {l : List (List Val)} (h : l.length ≤ 24) (hf : ∀ c ∈ l, c.length ≤ 4) : CQ l = some l := by
  unfold CQ
  rw [EU (by omega) (by decide), bnd, Int.toNat_natCast]
  exact Gy (k := xk l) l.length 0 (fun j h1 h2 nx => by
    unfold xh
    rw [xE (by omega), bnd, EU (by have := hf _ (List.getElem_mem (by omega : j < l.length)); omega) (by decide), bnd])
theorem copy_eq {s : LX.State} (h : Small s) : AZ s = some s := by
  unfold AZ
  rw [EU (by have := h.frames; omega) (by decide), bnd, OX h.cells h.fields, bnd]
  unfold DW
  rw [Int.toNat_natCast]
  exact Gy (k := AY s s.cells) s.frames.length 0 (fun j h1 h2 nx => by
    unfold AX
    rw [xE (by omega), bnd, EU (by have := h.regs _ (List.getElem_mem (by omega : j < s.frames.length)); omega) (by decide), bnd])
theorem room_le {α : Type} {bytes : Nat} {l m : List α} (h : l.length + m.length ≤ 100000) (hb : bytes ≤ 48) : Room bytes l m := by
  have : (l.length + m.length) * bytes ≤ 100000 * 48 := Nat.mul_le_mul h hb
  exact ⟨by omega, by omega⟩
end Go.Proofs.YtfclkapelkhlpaaGreatDoor
namespace Go.Proofs.YtfclkapelkhlpaaGreatDoor
open Go Go.Proofs Go.LX
def EW (l : List Int) (v : Val) : List Int := if v.kind = 2 ∧ v.n ∉ l then l ++ [v.n] else l
def EX (l : List Int) (vs : List Val) : List Int := vs.foldl EW l
def cellAt (cells : List (List Val)) (k : Int) : List Val := (idx cells k).getD []
def Kv (cells : List (List Val)) : Nat → Nat → List Int → List Int
  | 0, _, l => l
  | m + 1, k, l => if h : k < l.length then Kv cells m (k + 1) (EX l (cellAt cells l[k])) else l
def Co (cells : List (List Val)) (vs : List Val) : List Int := Kv cells 25 0 (EX [] vs)
theorem C8 (l : List Int) (v : Val) (vs : List Val) : EX l (v :: vs) = EX (EW l v) vs := rfl
theorem Xu (l : List Int) (v : Val) : l <+: EW l v := by
  unfold EW; split
  · exact List.prefix_append _ _
  · exact List.prefix_refl _
theorem Cq : ∀ (vs : List Val) (l : List Int), l <+: EX l vs
  | [], l => List.prefix_refl _
  | v :: vs, l => (Xu l v).trans (Cq vs _)
theorem R3 (cells : List (List Val)) : ∀ (m k : Nat) (l : List Int), l <+: Kv cells m k l
  | 0, _, l => List.prefix_refl _
  | m + 1, k, l => by
    unfold Kv; split
    · exact (Cq _ _).trans (R3 cells m _ _)
    · exact List.prefix_refl _
theorem Lx : ∀ (n : Nat) (l : List Int), l.Nodup → (∀ x ∈ l, 0 ≤ x ∧ x < n) → l.length ≤ n
  | 0, l, _, h => by
    cases l with
    | nil => simp
    | cons x l => have := h x (by simp); omega
  | n + 1, l, hn, h => by
    have h1 := Lx n (l.erase (n : Int)) (hn.erase _) (fun x hx => by
      have h2 := (hn.mem_erase_iff).1 hx
      have := h x h2.2
      have h3 := h2.1
      constructor
      · omega
      · push_cast at this; omega)
    have h4 : l.length ≤ (l.erase (n : Int)).length + 1 := by rw [List.length_erase]; split <;> omega
    omega
def qc (n : Nat) (l : List Int) : Prop := l.Nodup ∧ ∀ x ∈ l, 0 ≤ x ∧ x < n
theorem qc.len {n : Nat} {l : List Int} (h : qc n l) : l.length ≤ n := Lx n l h.1 h.2
theorem qc.nil {n : Nat} : qc n [] := ⟨List.nodup_nil, fun x hx => by cases hx⟩
theorem ib.ref {n : Nat} {v : Val} (h : ib n v) (hk : v.kind = 2) : 0 ≤ v.n ∧ v.n < n := by unfold ib at h; omega
theorem qc.v {n : Nat} {l : List Int} (h : qc n l) {v : Val} (hv : ib n v) : qc n (EW l v) := by
  unfold EW; split
  · rename_i hc
    refine ⟨List.nodup_append.2 ⟨h.1, by simp, fun a ha b hb => ?_⟩, fun x hx => ?_⟩
    · simp at hb; subst hb; intro e; subst e; exact hc.2 ha
    · rcases List.mem_append.1 hx with hx | hx
      · exact h.2 x hx
      · simp at hx; subst hx; exact hv.ref hc.1
  · exact h
theorem qc.l {n : Nat} : ∀ {vs : List Val} {l : List Int}, qc n l → (∀ v ∈ vs, ib n v) → qc n (EX l vs)
  | [], l, h, _ => h
  | v :: vs, l, h, hv => qc.l (vs := vs) (l := EW l v) (h.v (hv v (by simp))) (fun w hw => hv w (List.mem_cons_of_mem _ hw))
theorem Bb {cells : List (List Val)} {k : Int} (h : 0 ≤ k ∧ k < cells.length) : idx cells k = some (cellAt cells k) ∧ cellAt cells k ∈ cells := by
  obtain ⟨n, rfl⟩ := Int.eq_ofNat_of_zero_le h.1
  unfold cellAt
  rw [xE (by omega)]
  exact ⟨rfl, List.getElem_mem _⟩
theorem mY.at {cells : List (List Val)} (h : mY cells) {k : Int} (hk : 0 ≤ k ∧ k < cells.length) : (1 ≤ (cellAt cells k).length ∧ (cellAt cells k).length ≤ 4) ∧ ∀ v ∈ cellAt cells k, ib cells.length v := h.2 _ (Bb hk).2
theorem qc.Kv {cells : List (List Val)} (hc : mY cells) : ∀ {m k : Nat} {l : List Int}, qc cells.length l → qc cells.length (Kv cells m k l)
  | 0, _, l, h => h
  | m + 1, k, l, h => by
    unfold Proofs.YtfclkapelkhlpaaGreatDoor.Kv; split
    · rename_i hk
      exact qc.Kv hc (h.l (hc.at (h.2 _ (List.getElem_mem hk))).2)
    · exact h
def fU (vs : List Val) (l : List Int) : Prop := ∀ v ∈ vs, v.kind = 2 → v.n ∈ l
theorem fU.pre {vs : List Val} {l m : List Int} (h : fU vs l) (hp : l <+: m) : fU vs m := fun v hv hk => hp.subset (h v hv hk)
theorem YU (l : List Int) (v : Val) (hk : v.kind = 2) : v.n ∈ EW l v := by
  unfold EW; split
  · simp
  · rename_i hc
    exact Decidable.not_not.1 (fun h => hc ⟨hk, h⟩)
theorem M6 : ∀ (vs : List Val) (l : List Int), fU vs (EX l vs)
  | [], l, v, hv, _ => by cases hv
  | w :: vs, l, v, hv, hk => by
    rw [C8]
    rcases List.mem_cons.1 hv with rfl | hv
    · exact (Cq vs _).subset (YU l v hk)
    · exact M6 vs _ v hv hk
theorem Xv {cells : List (List Val)} (hc : mY cells) : ∀ {m k : Nat} {l : List Int}, qc cells.length l → cells.length < k + m → (∀ j (hj : j < l.length), j < k → fU (cellAt cells l[j]) l) → ∀ x ∈ Kv cells m k l, fU (cellAt cells x) (Kv cells m k l)
  | 0, k, l, h, hm, hj, x, hx => by
    have := h.len
    obtain ⟨j, h1, rfl⟩ := List.getElem_of_mem hx
    exact hj j h1 (by have h1' : j < l.length := h1; omega)
  | m + 1, k, l, h, hm, hj, x, hx => by
    unfold Proofs.YtfclkapelkhlpaaGreatDoor.Kv at hx ⊢
    split at hx
    · rename_i hk
      rw [dif_pos hk]
      have hv := (hc.at (h.2 _ (List.getElem_mem hk))).2
      have hp := Cq (cellAt cells l[k]) l
      refine Xv hc (h.l hv) (by omega) (fun j h1 h2 => ?_) x hx
      by_cases e : j < l.length
      · have e1 : (EX l (cellAt cells l[k]))[j] = l[j] := (hp.getElem e).symm
        rw [e1]
        by_cases e2 : j < k
        · exact (hj j e e2).pre hp
        · have : j = k := by omega
          subst this
          exact M6 _ _
      · omega
    · rename_i hk
      rw [dif_neg hk]
      obtain ⟨j, h1, rfl⟩ := List.getElem_of_mem hx
      exact hj j h1 (by omega)
theorem Xw {cells : List (List Val)} (hc : mY cells) {vs : List Val} (hv : ∀ v ∈ vs, ib cells.length v) : qc cells.length (Co cells vs) ∧ fU vs (Co cells vs) ∧ ∀ x ∈ Co cells vs, fU (cellAt cells x) (Co cells vs) := by
  have h0 : qc cells.length (EX [] vs) := qc.nil.l hv
  refine ⟨qc.Kv hc h0, (M6 vs []).pre (R3 _ _ _ _), Xv hc h0 (by have := hc.1; omega) (fun j h1 h2 => absurd h2 (Nat.not_lt_zero _))⟩
theorem M7 {α : Type} (k k' : Int) (v : α) : ∀ l : List (Int × α), lk k (Av k' v l) = if k = k' then some v else lk k l
  | [] => by unfold Av lk; by_cases h : k = k' <;> simp [h, lk]
  | p :: l => by
    unfold Av
    by_cases h : k' = p.1
    · rw [if_pos h]
      show (if k = p.1 then some v else lk k l) = if k = k' then some v else (if k = p.1 then some p.2 else lk k l)
      by_cases e : k = p.1
      · rw [if_pos e, if_pos (by omega)]
      · rw [if_neg e, if_neg (by omega), if_neg e]
    · rw [if_neg h]
      show (if k = p.1 then some p.2 else lk k (Av k' v l)) = if k = k' then some v else (if k = p.1 then some p.2 else lk k l)
      by_cases e : k = p.1
      · rw [if_pos e, if_pos e, if_neg (by omega)]
      · rw [if_neg e, if_neg e, M7 k k' v l]
def Seen (l : List Int) (m : List (Int × Bool)) : Prop := ∀ k, (lk k m).getD false = decide (k ∈ l)
theorem Seen.nil : Seen [] [] := fun k => rfl
theorem Seen.put {l : List Int} {m : List (Int × Bool)} (h : Seen l m) (n : Int) : Seen (l ++ [n]) (Av n true m) := by
  intro k
  rw [M7]
  by_cases e : k = n
  · simp [e]
  · rw [if_neg e, h k, Bool.eq_iff_iff]; simp [e]
theorem EY {ρ : Type} {body : Val → List Int × List (Int × Bool) → (List Int × List (Int × Bool) → Option ρ) → Option ρ} {K : List Int × List (Int × Bool) → Option ρ}
    (hb : ∀ x l m nx, l.length ≤ 1000 → body x (l, m) nx = bif (decide (x.kind = 2) && (!((lk x.n m).getD false))) then nx (l ++ [x.n], Av x.n true m) else nx (l, m)) :
    ∀ (vs : List Val) (l : List Int) (m : List (Int × Bool)), Seen l m → l.length + vs.length ≤ 1000 → ∃ m', Seen (EX l vs) m' ∧ each body K vs (l, m) = K (EX l vs, m')
  | [], l, m, h, _ => ⟨m, h, rfl⟩
  | v :: vs, l, m, h, hl => by
    simp only [List.length_cons] at hl
    rw [dI, hb v l m _ (by omega), h v.n, C8]
    unfold EW
    by_cases hc : v.kind = 2 ∧ v.n ∉ l
    · rw [if_pos hc, dT hc.1, dF hc.2, Bool.true_and, Bool.not_false, cond_true]
      exact EY hb vs _ _ (h.put v.n) (by simp; omega)
    · rw [if_neg hc, show (decide (v.kind = 2) && !decide (v.n ∈ l)) = false by rw [Bool.and_eq_false_iff]; simp; simp only [not_and, Decidable.not_not] at hc; by_cases e : v.kind = 2 <;> simp [e, hc], cond_false]
      exact EY hb vs _ _ h (by omega)
theorem OY {cells : List (List Val)} (hc : mY cells) : ∀ (m N k : Nat) (l : List Int) (s : List (Int × Bool)), qc cells.length l → Seen l s → cells.length < k + m → m < N → k ≤ l.length → again (lK cells) N ((k : Int), l, s) = some (Kv cells m k l, 0)
  | m, 0, k, l, s, h, hs, hm, hN, hk => by omega
  | 0, N + 1, k, l, s, h, hs, hm, hN, hk => by have := h.len; omega
  | m + 1, N + 1, k, l, s, h, hs, hm, hN, hk => by
    rw [ET]
    unfold lK Proofs.YtfclkapelkhlpaaGreatDoor.Kv
    simp only
    have hl := h.len
    have hn := hc.1
    by_cases hlt : k < l.length
    · rw [dT (by omega), cond_true, xE hlt, bnd, dif_pos hlt]
      have hr := h.2 _ (List.getElem_mem hlt)
      have hv := hc.at hr
      rw [(Bb hr).1, bnd]
      have e0 : (fun (s : Int × List Int × List (Int × Bool)) (Od : Int × List Int × List (Int × Bool) → Option (List Int × Int)) => match s with | (I4, CL, ym) => bif decide ((I4 : Int) < (CL.length : Int)) then (idx CL I4).bind fun x79 => (idx cells x79).bind fun x87 => each nM (nO I4 Od) x87 (CL, ym) else some (CL, 0)) = lK cells := rfl
      rw [e0]
      obtain ⟨s', h1, h2⟩ := EY (body := nM) (K := nO (k : Int) (again (lK cells) N)) (fun x l m nx hl => by
        unfold nM
        simp only [uA]
        cases (decide (x.kind = 2) && (!((lk x.n m).getD false))) with
        | false => rfl
        | true => rw [cond_true, cond_true, xG (room_le (by simp; omega) (by decide))]) (cellAt cells l[k]) l s hs (by have := hv.1.2; omega)
      rw [h2]
      unfold nO
      simp only
      rw [gI (by omega) (by omega)]
      have hp := (Cq (cellAt cells l[k]) l).length_le
      exact OY hc m N (k + 1) _ s' (h.l hv.2) h1 (by omega) (by omega) (by omega)
    · rw [dF (by omega), cond_false, dif_neg hlt]
theorem Xx {N : Nat} (hN : 100 ≤ N) {cells : List (List Val)} (hc : mY cells) {vs : List Val} (hv : ∀ v ∈ vs, ib cells.length v) (hl : vs.length ≤ 400) : A7 N cells vs = some (Co cells vs, 0) := by
  unfold A7
  rw [(QZ cells).2 hc, dF (by simp), cond_false, dF (by omega), cond_false]
  have k1 : ∀ l : List Val, (∀ v ∈ l, ib cells.length v) → each (qB cells) (nP N cells vs) l () = nP N cells vs () := by
    intro l
    induction l with
    | nil => intro _; rfl
    | cons x l ih =>
      intro h
      rw [dI]
      unfold qB
      rw [(Cm _ _).2 (h x (by simp)), dF (by simp), cond_false]
      exact ih (fun v hv => h v (List.mem_cons_of_mem _ hv))
  rw [k1 vs hv]
  unfold nP
  obtain ⟨s', h1, h2⟩ := EY (body := qA) (K := uB N cells) (fun x l m nx hl => by
    unfold qA
    simp only [uz]
    cases (decide (x.kind = 2) && (!((lk x.n m).getD false))) with
    | false => rfl
    | true => rw [cond_true, cond_true, xG (room_le (by simp; omega) (by decide))]) vs [] [] Seen.nil (by simp; omega)
  rw [h2]
  exact OY hc 25 N 0 _ s' (qc.nil.l hv) h1 (by have := hc.1; omega) (by omega) (by omega)
end Go.Proofs.YtfclkapelkhlpaaGreatDoor
namespace Go.Proofs.YtfclkapelkhlpaaGreatDoor
open Go Go.Proofs Go.LX
def ren (l : List Int) (v : Val) : Val := if v.kind = 2 then ⟨v.kind, (l.idxOf v.n : Nat)⟩ else v
def za (l : List Int) (f : LX.Frame) : LX.Frame := { f with regs := f.regs.map (ren l) }
def roots (fr : List LX.Frame) : List Val := fr.flatMap (·.regs)
def dh (s : LX.State) : List Int := Co s.cells (roots s.frames)
def df (s : LX.State) : LX.State := ⟨s.frames.map (za (dh s)), (dh s).map (fun k => (cellAt s.cells k).map (ren (dh s))), s.status, s.aK⟩
structure Cr (s : LX.State) : Prop where
  small : Small s
  cells : mY s.cells
  vals : ∀ f ∈ s.frames, ∀ v ∈ f.regs, ib s.cells.length v
theorem pF.sw {a : List bN} {s : LX.State} (h : pF a s) (ha : mg a) : Cr s where
  small := h.small ha
  cells := h.cells
  vals f hf := by obtain ⟨x, g⟩ := uE h.frames f hf; exact g.vals
theorem Cr.roots {s : LX.State} (h : Cr s) : ∀ v ∈ roots s.frames, ib s.cells.length v := by
  intro v hv
  unfold YtfclkapelkhlpaaGreatDoor.roots at hv
  obtain ⟨f, hf, hv⟩ := List.mem_flatMap.1 hv
  exact h.vals f hf v hv
theorem Un (fr : List LX.Frame) (h : ∀ f ∈ fr, f.regs.length ≤ 40) : (roots fr).length ≤ 40 * fr.length := by
  induction fr with
  | nil => simp [roots]
  | cons f l ih =>
    have := h f (by simp)
    have := ih (fun g hg => h g (List.mem_cons_of_mem _ hg))
    unfold roots at *
    rw [List.flatMap_cons, List.length_append, List.length_cons]; omega
theorem Cr.rlen {s : LX.State} (h : Cr s) : (YtfclkapelkhlpaaGreatDoor.roots s.frames).length ≤ 400 := by
  have := Un s.frames h.small.regs
  have := h.small.frames
  omega
theorem Cr.reach {s : LX.State} (h : Cr s) : qc s.cells.length (dh s) ∧ fU (YtfclkapelkhlpaaGreatDoor.roots s.frames) (dh s) ∧ ∀ x ∈ dh s, fU (cellAt s.cells x) (dh s) := Xw h.cells h.roots
theorem OZ {α ρ : Type} {body : Int → List α → (List α → Option ρ) → Option ρ} {K : List α → Option ρ} {g : α → α} {P : α → Prop}
    (hb : ∀ (i : Nat) (x : List α) a nx, x[i]? = some a → P a → body (i : Int) x nx = nx (x.set i (g a))) :
    ∀ (l2 l1 : List α), (∀ a ∈ l2, P a) → upto body K (l1.length : Int) l2.length (l1 ++ l2) = K (l1 ++ l2.map g)
  | [], l1, _ => by simp [upto]
  | a :: l2, l1, h => by
    rw [List.length_cons, Lu, hb l1.length (l1 ++ a :: l2) a _ (by simp) (h a (by simp))]
    have := OZ (K := K) hb l2 (l1 ++ [g a]) (fun b hb => h b (List.mem_cons_of_mem _ hb))
    rw [show (l1 ++ a :: l2).set l1.length (g a) = (l1 ++ [g a]) ++ l2 by simp, show ((l1.length : Int) + 1) = ((l1 ++ [g a]).length : Nat) by simp, this]
    simp
theorem Gz {α ρ : Type} {body : Int → List α → (List α → Option ρ) → Option ρ} {K : List α → Option ρ} {g : α → α} {P : α → Prop}
    (hb : ∀ (i : Nat) (x : List α) a nx, x[i]? = some a → P a → body (i : Int) x nx = nx (x.set i (g a))) (l : List α) (hp : ∀ a ∈ l, P a) : upto body K 0 l.length l = K (l.map g) := by
  have := OZ (K := K) hb l [] hp
  simpa using this
def JV (l : List Int) (m : List (Int × Int)) : Prop := ∀ k, lk k m = if k ∈ l then some ((l.idxOf k : Nat) : Int) else none
theorem R4 {l : List Int} {m : List (Int × Int)} (h : JV l m) (vs : List Val) (hr : fU vs l) : I5 vs m = some (vs.map (ren l)) := by
  unfold I5
  rw [Int.toNat_natCast]
  refine Gz (P := fun v => v.kind = 2 → v.n ∈ l) (fun i x a nx hx hp => ?_) vs (fun v hv => hr v hv)
  unfold CU CS
  rw [mR, hx, bnd]
  by_cases hk : a.kind = 2
  · rw [dT hk, cond_true, h a.n, if_pos (hp hk)]
    simp [ren, hk]
  · rw [dF hk, cond_false]
    have : x.set i a = x := by
      obtain ⟨h1, rfl⟩ := List.getElem?_eq_some_iff.1 hx
      exact List.set_getElem_self h1
    simp [ren, hk, this]
theorem JW {s : LX.State} (hc : mY s.cells) {K : List (List Val) × List Int × List (Int × Int) → Option LX.State} : ∀ (l2 l1 : List Int) (m : List (Int × Int)), qc s.cells.length (l1 ++ l2) → JV l1 m →
    ∃ m', JV (l1 ++ l2) m' ∧ eO (oM s) K (l1.length : Int) l2 (l1.map (cellAt s.cells), l1, m) = K ((l1 ++ l2).map (cellAt s.cells), l1 ++ l2, m')
  | [], l1, m, _, h => ⟨m, by simpa using h, by simp [eO]⟩
  | k :: l2, l1, m, hm, h => by
    have e1 : l1 ++ k :: l2 = (l1 ++ [k]) ++ l2 := by simp
    have hk : k ∉ l1 := by
      intro hk
      exact (List.nodup_append.1 hm.1).2.2 k hk k (by simp) rfl
    have hl := hm.len
    have hn := hc.1
    simp only [List.length_append, List.length_cons] at hl
    have hr := hm.2 k (by simp)
    rw [iT]
    obtain ⟨m', h1, h2⟩ := JW hc (K := K) l2 (l1 ++ [k]) (Av k (l1.length : Int) m) (by rw [← e1]; exact hm) (fun q => by
      rw [M7]
      by_cases e : q = k
      · subst e
        rw [if_pos rfl, if_pos (by simp), List.idxOf_append, if_neg hk]
        simp
      · rw [if_neg e, h q]
        by_cases hq : q ∈ l1
        · rw [if_pos hq, if_pos (by simp [hq]), List.idxOf_append, if_pos hq]
        · rw [if_neg hq, if_neg (by simp [hq, e])])
    refine ⟨m', by rw [e1]; exact h1, ?_⟩
    have hlen : (((l1 ++ [k]).length : Nat) : Int) = (l1.length : Int) + 1 := by simp
    rw [hlen] at h2
    rw [e1, ← h2]
    generalize eO (oM s) K ((l1.length : Int) + 1) l2 = K1
    unfold oM
    simp only
    rw [(Bb hr).1, bnd, xG hk, xG (room_le (by simp; omega) (by decide)), List.map_append]
    rfl
theorem M8 {l : List Int} {m : List (Int × Int)} (h : JV l m) (K : List LX.Frame → Option LX.State) (fr : List LX.Frame) (hr : ∀ f ∈ fr, fU f.regs l) : upto (uC m) K 0 fr.length fr = K (fr.map (za l)) :=
  Gz (P := fun f => fU f.regs l) (fun i x a nx hx hp => by
    unfold uC
    rw [mR, hx, bnd, R4 h a.regs hp, bnd]
    simp [za]) fr hr
theorem O0 {l : List Int} {m : List (Int × Int)} (h : JV l m) (K : List (List Val) → Option LX.State) (cs : List (List Val)) (hr : ∀ c ∈ cs, fU c l) : upto (wF m) K 0 cs.length cs = K (cs.map (fun c => c.map (ren l))) :=
  Gz (P := fun c => fU c l) (fun i x a nx hx hp => by
    unfold wF
    rw [mR, hx, bnd, R4 h a hp, bnd]
    simp) cs hr
theorem LA {K : List Val → Option LX.State} : ∀ (fr : List LX.Frame) (acc : List Val), acc.length + (roots fr).length ≤ 1000 → each qP K fr acc = K (acc ++ roots fr)
  | [], acc, _ => by simp [gG, roots]
  | f :: fr, acc, h => by
    have e : roots (f :: fr) = f.regs ++ roots fr := rfl
    rw [e, List.length_append] at h
    rw [dI]
    have ih := LA (K := K) fr (acc ++ f.regs) (by simp; omega)
    generalize each qP K fr = K1 at ih ⊢
    unfold qP
    rw [xG (room_le (by omega) (by decide)), ih, e, List.append_assoc]
theorem yg {fr : List LX.Frame} {l : List Int} (h : fU (roots fr) l) : ∀ f ∈ fr, fU f.regs l := fun f hf v hv hk => h v (List.mem_flatMap.2 ⟨f, hf, hv⟩) hk
theorem EZ {N : Nat} (hN : 100 ≤ N) {s : LX.State} (h : Cr s) : rJ N s = some (df s) := by
  have hr := h.reach
  unfold rJ
  rw [LA s.frames [] (by have := h.rlen; simp; omega), List.nil_append]
  unfold xq
  rw [Xx hN h.cells h.roots h.rlen, bnd, dF (by simp), cond_false, copy_eq h.small, bnd]
  have e : Co s.cells (roots s.frames) = dh s := rfl
  simp only [e]
  obtain ⟨m', h1, h2⟩ := JW h.cells (K := qO s) (dh s) [] [] (by simpa using hr.1) (fun k => by simp [lk])
  have h2' : eO (oM s) (qO s) 0 (dh s) ([], ([] : List Int), ([] : List (Int × Int))) = _ := h2
  rw [h2']
  simp only [List.nil_append] at h1 ⊢
  unfold qO
  simp only [Int.toNat_natCast]
  rw [M8 h1 _ _ (yg hr.2.1)]
  unfold xn
  rw [Int.toNat_natCast, O0 h1 _ _ (fun c hc => by
    obtain ⟨k, hk, rfl⟩ := List.mem_map.1 hc
    exact hr.2.2 k hk)]
  unfold xm df
  rw [List.map_map]; rfl
end Go.Proofs.YtfclkapelkhlpaaGreatDoor
namespace Go.Proofs.YtfclkapelkhlpaaGreatDoor
open Go Go.Proofs Go.LX
def gJ (r : List Val) (i : Int) : Val := (idx r i).getD ⟨0, 0⟩
def R5 (k : Int) (b c : Val) : Option Val :=
  if k = 5 then some ⟨1, if b = c then 1 else 0⟩ else if b.kind ≠ 1 ∨ c.kind ≠ 1 then none else if k = 4 then some ⟨1, if b.n < c.n then 1 else 0⟩ else
  let n := if k = 1 then b.n + c.n else if k = 2 then b.n - c.n else b.n * c.n
  if -1000000000 ≤ n ∧ n ≤ 1000000000 then some ⟨1, n⟩ else none
def zf (f : LX.Frame) (x : bN) : LX.Frame := { f with at_ := min (f.at_ + 1) ((x.code.length : Int) - 1) }
def Kw (s : LX.State) (c : Ins) : Option LX.State :=
  if s.cells.length = 24 then none else some ⟨s.frames.dropLast ++ (s.frames.getLast?.map fun h => { h with regs := h.regs.set c.a.toNat ⟨2, s.cells.length⟩ }).toList, s.cells ++ [List.replicate c.b.toNat ⟨0, 0⟩], s.status, s.aK⟩
def lW (a : List bN) (pre : List LX.Frame) (f : LX.Frame) (cells : List (List Val)) (st wh : Int) (x : bN) (c : Ins) : Option (LX.State × Option Int × Bool) :=
  let g := zf f x
  let r := gJ f.regs
  let put := fun (v : Val) => (⟨pre ++ [{ g with regs := f.regs.set c.a.toNat v }], cells, st, wh⟩ : LX.State)
  let stay := (⟨pre ++ [g], cells, st, wh⟩ : LX.State)
  let jump := (⟨pre ++ [{ g with at_ := c.b }], cells, st, wh⟩ : LX.State)
  let bad := fun (v : Val) => v.kind ≠ 2 ∨ ((cellAt cells v.n).length : Int) ≤ c.c
  if c.op = 1 then some (put ⟨1, c.b⟩, none, false) else
  if c.op = 2 then some (put (r c.b), none, false) else
  if c.op = 3 then (R5 (c.args.headD 0) (r c.b) (r c.c)).map fun v => (put v, none, false) else
  if c.op = 4 then (if bad (r c.b) then none else some (put (gJ (cellAt cells (r c.b).n) c.c), none, false)) else
  if c.op = 6 then (if bad (r c.a) then none else some (⟨pre ++ [g], cells.set (r c.a).n.toNat ((cellAt cells (r c.a).n).set c.c.toNat (r c.b)), st, wh⟩, none, false)) else
  if c.op = 5 then (Kw (if cells.length = 24 then df stay else stay) c).map fun t => (t, none, false) else
  if c.op = 7 then (if pre.length + 1 = 10 then none else some (⟨pre ++ [g] ++ [⟨c.b, 0, c.args.map r ++ List.replicate (((idx a c.b).map (·.regs)).getD 0 - c.args.length).toNat ⟨0, 0⟩, c.a⟩], cells, st, wh⟩, none, false)) else
  if c.op = 8 then some (match pre.getLast? with
    | none => ⟨[], cells, 1, wh⟩
    | some h => ⟨pre.dropLast ++ [{ h with regs := h.regs.set f.mH.toNat (r c.a) }], cells, st, wh⟩, none, false) else
  if c.op = 9 then (if (r c.a).kind = 1 then some (stay, some (r c.a).n, false) else none) else
  if c.op = 11 then (if (r c.a).kind = 1 then some (⟨pre ++ [g], cells, 3, (r c.a).n⟩, none, true) else none) else
  if c.op = 12 then some (jump, none, false) else
  if c.op = 13 then some (if (r c.a).kind ≠ 2 ∧ (r c.a).n = 0 then jump else stay, none, false) else
  some (stay, none, true)
def R1 (r : Option (Dv × Bool × LX.State)) (q : Option (LX.State × Option Int × Bool)) : Prop := ∃ o ok s', r = some (o, ok, s') ∧ match q with | none => ok = false | some (t, said, p) => ok = true ∧ s' = t ∧ o = ⟨said.isSome, said.getD 0, p⟩
theorem yh {R : Int} {r : List Val} (hr : (r.length : Int) = R) {i : Int} (h : wU R i) : idx r i = some (gJ r i) ∧ gJ r i ∈ r := by
  obtain ⟨h1, h2⟩ := h
  obtain ⟨n, rfl⟩ := Int.eq_ofNat_of_zero_le h1
  unfold gJ
  rw [xE (by omega)]
  exact ⟨rfl, List.getElem_mem _⟩
theorem E5 (pre : List LX.Frame) (f : LX.Frame) : idx (pre ++ [f]) (pre.length : Int) = some f := by rw [mR]; simp
theorem qU (pre : List LX.Frame) (f g : LX.Frame) : (pre ++ [f]).set pre.length g = pre ++ [g] := by simp
theorem oV (pre : List LX.Frame) (f : LX.Frame) : (((pre ++ [f]).length : Int) - 1) = (pre.length : Int) := by simp
theorem mul_bd {x y : Int} (hx : -1000000000 ≤ x ∧ x ≤ 1000000000) (hy : -1000000000 ≤ y ∧ y ≤ 1000000000) : -1000000000000000000 ≤ x * y ∧ x * y ≤ 1000000000000000000 := by
  have h1 : (x * y).natAbs ≤ 1000000000 * 1000000000 := by
    rw [Int.natAbs_mul]
    exact Nat.mul_le_mul (by omega) (by omega)
  omega
theorem ib.int {n : Nat} {v : Val} (h : ib n v) (hk : v.kind = 1) : -1000000000 ≤ v.n ∧ v.n ≤ 1000000000 := by unfold ib at h; omega
theorem op_eq {n : Nat} {k : Int} {b c : Val} (hk : 1 ≤ k ∧ k ≤ 5) (hb : ib n b) (hc : ib n c) : ∃ v, Oc k b c = some (v, (R5 k b c).isSome) ∧ ∀ w, R5 k b c = some w → v = w := by
  unfold Oc R5 zK
  by_cases h5 : k = 5
  · rw [dT h5, cond_true, if_pos h5]
    by_cases e : b = c
    · subst e; simp
    · rw [if_neg e]
      have : (decide (b.kind = c.kind) && decide (b.n = c.n)) = false := by
        obtain ⟨k1, n1⟩ := b; obtain ⟨k2, n2⟩ := c
        rw [Bool.and_eq_false_iff]; simp at e ⊢
        by_cases h : k1 = k2
        · right; exact e h
        · left; exact h
      rw [this]; simp
  rw [dF h5, cond_false, if_neg h5]
  by_cases hi : b.kind = 1 ∧ c.kind = 1
  · rw [show (decide ((b.kind : Int) ≠ 1) || decide ((c.kind : Int) ≠ 1)) = false by simp [hi.1, hi.2], cond_false, if_neg (by simp [hi.1, hi.2])]
    have b1 := hb.int hi.1
    have c1 := hc.int hi.2
    have m1 := mul_bd b1 c1
    have fin : ∀ z : Int, ∃ v, some ((⟨1, z⟩ : Val), (decide ((-1000000000 : Int) ≤ z) && decide ((z : Int) ≤ 1000000000))) = some (v, (if -1000000000 ≤ z ∧ z ≤ 1000000000 then some (⟨1, z⟩ : Val) else none).isSome) ∧ ∀ w, (if -1000000000 ≤ z ∧ z ≤ 1000000000 then some (⟨1, z⟩ : Val) else none) = some w → v = w := by
      intro z
      by_cases h : -1000000000 ≤ z ∧ z ≤ 1000000000
      · rw [if_pos h, dT h.1, dT h.2]; exact ⟨_, rfl, fun w e => by cases e; rfl⟩
      · rw [if_neg h]
        refine ⟨⟨1, z⟩, ?_, fun w e => by cases e⟩
        · congr 2
          rw [Option.isSome_none, Bool.and_eq_false_iff]; simp only [decide_eq_false_iff_not]; omega
    by_cases h4 : k = 4
    · subst h4
      rw [if_pos rfl]
      simp only [Int.reduceEq, decide_false, decide_true, cond_false, cond_true]
      by_cases e : b.n < c.n <;> simp [e]
    rw [if_neg h4]
    by_cases h1 : k = 1
    · subst h1
      simp only [Int.reduceEq, decide_true, cond_true, if_true]
      rw [gI (by omega) (by omega)]
      exact fin _
    by_cases h2 : k = 2
    · subst h2
      simp only [Int.reduceEq, decide_true, decide_false, cond_true, cond_false, if_true, if_false]
      rw [gI (by omega) (by omega)]
      exact fin _
    · obtain rfl : k = 3 := by omega
      simp only [Int.reduceEq, decide_true, decide_false, cond_true, cond_false, if_true, if_false]
      rw [gI (by omega) (by omega)]
      exact fin _
  · rw [show (decide ((b.kind : Int) ≠ 1) || decide ((c.kind : Int) ≠ 1)) = true by simp; omega, cond_true, if_pos (by omega)]
    exact ⟨_, rfl, fun w e => by cases e⟩
end Go.Proofs.YtfclkapelkhlpaaGreatDoor
namespace Go.Proofs.YtfclkapelkhlpaaGreatDoor
open Go Go.Proofs Go.LX
theorem kL {a : List bN} {n : Nat} {f : LX.Frame} : ∀ {l : List LX.Frame} {t : Int}, jB a n t (l ++ [f]) ↔ jB a n t l ∧ (∃ x, y5 a n f x) ∧ (0 ≤ f.mH ∧ f.mH < (match l.getLast? with | none => t | some g => g.regs.length))
  | [], t => by simp [jB]
  | g :: l, t => by
    show ((∃ x, y5 a n g x) ∧ (0 ≤ g.mH ∧ g.mH < t) ∧ jB a n g.regs.length (l ++ [f])) ↔ _
    rw [kL (l := l)]
    have e : (match (g :: l).getLast? with | none => t | some g => ((g.regs.length : Int))) = (match l.getLast? with | none => ((g.regs.length : Int)) | some g => (g.regs.length : Int)) := by
      rw [List.getLast?_cons]
      cases l.getLast? <;> rfl
    rw [e]
    simp only [jB, and_assoc]
structure nW (a : List bN) (pre : List LX.Frame) (f : LX.Frame) (cells : List (List Val)) (x : bN) (c : Ins) : Prop where
  fr : y5 a cells.length f x
  ins : idx x.code f.at_ = some c
  good : Bv a x.regs x.code.length c
  chain : jB a cells.length 1 pre
  mH : 0 ≤ f.mH ∧ f.mH < ahead pre
  many : pre.length + 1 ≤ 10
  O1 : mY cells
  proc : (1 ≤ x.regs ∧ x.regs ≤ 40) ∧ qR x
theorem top_ok {a : List bN} (ha : mg a) {pre : List LX.Frame} {f : LX.Frame} {cells : List (List Val)} {st wh : Int} (h : pF a ⟨pre ++ [f], cells, st, wh⟩) : ∃ x c, nW a pre f cells x c := by
  obtain ⟨h1, ⟨x, g⟩, h3⟩ := kL.1 h.frames
  have hm := ha.mem g.proc
  have hat := g.at_
  obtain ⟨n, hn⟩ := Int.eq_ofNat_of_zero_le hat.1
  have hlt : n < x.code.length := by omega
  refine ⟨x, x.code[n], g, by rw [hn, xE hlt], ha.ins x hm.1 _ (List.getElem_mem _), h1, h3, ?_, h.cells, ⟨by omega, hm.2.2.2⟩⟩
  have := h.many
  simpa using this
theorem nW.zf {a : List bN} {pre : List LX.Frame} {f : LX.Frame} {cells : List (List Val)} {x : bN} {c : Ins} (h : nW a pre f cells x c) : y5 a cells.length (zf f x) x where
  proc := h.fr.proc
  at_ := by
    have := h.fr.at_
    have := h.proc.2
    unfold qR at this
    simp only [YtfclkapelkhlpaaGreatDoor.zf]
    omega
  regs := h.fr.regs
  vals := h.fr.vals
theorem nW.reg {a : List bN} {pre : List LX.Frame} {f : LX.Frame} {cells : List (List Val)} {x : bN} {c : Ins} (h : nW a pre f cells x c) {i : Int} (hi : wU x.regs i) : idx f.regs i = some (gJ f.regs i) ∧ ib cells.length (gJ f.regs i) := by
  have := yh h.fr.regs hi
  exact ⟨this.1, h.fr.vals _ this.2⟩
theorem nW.sw {a : List bN} {pre : List LX.Frame} {f : LX.Frame} {cells : List (List Val)} {x : bN} {c : Ins} (ha : mg a) (h : nW a pre f cells x c) {st wh : Int} {g : LX.Frame} (hg : y5 a cells.length g x) : Cr ⟨pre ++ [g], cells, st, wh⟩ where
  small := ⟨by have := h.many; simp; omega, fun k hk => by
    rcases List.mem_append.1 hk with hk | hk
    · obtain ⟨y, hy⟩ := uE h.chain k hk
      have := hy.regs
      have := (ha.mem hy.proc).2.2.1
      omega
    · simp at hk; subst hk
      have := hg.regs
      have := h.proc.1
      omega, h.O1.1, fun c hc => (h.O1.2 c hc).1.2⟩
  cells := h.O1
  vals k hk := by
    rcases List.mem_append.1 hk with hk | hk
    · obtain ⟨y, hy⟩ := uE h.chain k hk
      exact hy.vals
    · simp at hk; subst hk; exact hg.vals
section
variable {a : List bN} {pre : List LX.Frame} {f : LX.Frame} {cells : List (List Val)} {st wh : Int} {x : bN} {c : Ins} {N : Nat}
theorem uF (h : nW a pre f cells x c) : oN N ⟨pre ++ [f], cells, st, wh⟩ a = (bif decide ((c.op : Int) = 1) then (idx f.regs c.a).bind fun x41 => kv false (pre ++ [{ zf f x with regs := (f.regs.set (c.a).toNat (⟨1, c.b⟩ : Val)) }]) cells st wh else bif decide ((c.op : Int) = 2) then (idx f.regs c.b).bind fun Jf => (idx f.regs c.a).bind fun x56 => kv false (pre ++ [{ zf f x with regs := (f.regs.set (c.a).toNat Jf) }]) cells st wh else bif decide ((c.op : Int) = 3) then (idx c.args 0).bind fun q5 => (idx f.regs c.b).bind fun q10 => (idx f.regs c.c).bind fun q15 => (Oc q5 q10 q15).bind fun q17 => (idx f.regs c.a).bind fun q21 => A8 ⟨pre ++ [f], cells, st, wh⟩ q17.2 (pre ++ [{ zf f x with regs := (f.regs.set (c.a).toNat q17.1) }]) else bif decide ((c.op : Int) = 4) then iV N ⟨pre ++ [f], cells, st, wh⟩ f x c a (decide ((c.op : Int) = 4)) else iV N ⟨pre ++ [f], cells, st, wh⟩ f x c a (decide ((c.op : Int) = 6))) := by
  have hm := h.many
  have hat := h.fr.at_
  have hl := h.proc.2
  unfold qR at hl
  unfold oN
  simp only [oV]
  rw [gI (by omega) (by omega), E5, bnd, h.fr.proc, bnd, h.ins, bnd, gI (by omega) (by omega), gI (by omega) (by omega)]
  simp only [Int.toNat_natCast, qU]
  rfl
theorem step1 (h : nW a pre f cells x c) (hop : c.op = 1) (hr : wU x.regs c.a) : R1 (oN N ⟨pre ++ [f], cells, st, wh⟩ a) (lW a pre f cells st wh x c) := by
  rw [uF h, hop]
  simp only [Int.reduceEq, decide_true, decide_false, cond_true, cond_false]
  rw [(h.reg hr).1, bnd]
  unfold lW
  simp only [hop, if_true]
  exact ⟨_, _, _, rfl, rfl, rfl, rfl⟩
theorem step2 (h : nW a pre f cells x c) (hop : c.op = 2) (hr : wU x.regs c.a) (hb : wU x.regs c.b) : R1 (oN N ⟨pre ++ [f], cells, st, wh⟩ a) (lW a pre f cells st wh x c) := by
  rw [uF h, hop]
  simp only [Int.reduceEq, decide_true, decide_false, cond_true, cond_false]
  rw [(h.reg hb).1, bnd, (h.reg hr).1, bnd]
  unfold lW
  simp only [hop, Int.reduceEq, if_true, if_false]
  exact ⟨_, _, _, rfl, rfl, rfl, rfl⟩
theorem step3 (h : nW a pre f cells x c) (hop : c.op = 3) (hr : wU x.regs c.a) (hb : wU x.regs c.b) (hc : wU x.regs c.c) {n : Int} (hn : c.args = [n]) (hn2 : 1 ≤ n ∧ n ≤ 5) : R1 (oN N ⟨pre ++ [f], cells, st, wh⟩ a) (lW a pre f cells st wh x c) := by
  rw [uF h, hop, hn]
  simp only [Int.reduceEq, decide_true, decide_false, cond_true, cond_false]
  obtain ⟨v, h1, h2⟩ := op_eq hn2 (h.reg hb).2 (h.reg hc).2
  rw [idx0, bnd, (h.reg hb).1, bnd, (h.reg hc).1, bnd, h1, bnd, (h.reg hr).1, bnd]
  unfold lW A8
  simp only [hop, hn, Int.reduceEq, if_true, if_false, List.headD_cons]
  cases e : R5 n (gJ f.regs c.b) (gJ f.regs c.c) with
  | none => exact ⟨_, _, _, rfl, rfl⟩
  | some w => rw [h2 w e]; exact ⟨_, _, _, rfl, rfl, rfl, rfl⟩
theorem O3 {v : Val} (hc : mY cells) (h : ib cells.length v) (hk : v.kind = 2) : idx cells v.n = some (cellAt cells v.n) ∧ (1 ≤ (cellAt cells v.n).length ∧ (cellAt cells v.n).length ≤ 4) := by
  have hr := h.ref hk
  exact ⟨(Bb hr).1, (hc.at hr).1⟩
theorem R6 {v : Val} {i : Int} (hi : 0 ≤ i) (h : i < ((cellAt cells v.n).length : Int)) : idx (cellAt cells v.n) i = some (gJ (cellAt cells v.n) i) := (yh rfl ⟨hi, h⟩).1
theorem Uo (h : nW a pre f cells x c) (hop : c.op = 4) (hr : wU x.regs c.a) (hb : wU x.regs c.b) (hc : 0 ≤ c.c ∧ c.c < 4) : R1 (oN N ⟨pre ++ [f], cells, st, wh⟩ a) (lW a pre f cells st wh x c) := by
  rw [uF h, hop]
  simp only [Int.reduceEq, decide_true, decide_false, cond_true, cond_false]
  unfold iV EI wE wD
  simp only [oV, Int.toNat_natCast, qU, hop, Int.reduceEq, decide_true, decide_false, cond_true, cond_false]
  have hv := h.reg hb
  rw [hv.1]
  simp only [bnd]
  unfold lW
  simp only [hop, Int.reduceEq, if_true, if_false]
  by_cases hk : (gJ f.regs c.b).kind = 2
  · have hcell := O3 h.O1 hv.2 hk
    rw [dF (by omega), cond_false, hcell.1]
    simp only [bnd]
    by_cases hl : ((cellAt cells (gJ f.regs c.b).n).length : Int) ≤ c.c
    · rw [dT hl, cond_true, if_pos (by omega)]
      exact ⟨_, _, _, rfl, rfl⟩
    · rw [dF hl, cond_false, if_neg (by omega), R6 hc.1 (by omega), bnd, (h.reg hr).1, bnd]
      exact ⟨_, _, _, rfl, rfl, rfl, rfl⟩
  · rw [dT hk, cond_true, if_pos (.inl hk)]
    exact ⟨_, _, _, rfl, rfl⟩
theorem Uq (h : nW a pre f cells x c) (hop : c.op = 6) (hr : wU x.regs c.a) (hb : wU x.regs c.b) (hc : 0 ≤ c.c ∧ c.c < 4) : R1 (oN N ⟨pre ++ [f], cells, st, wh⟩ a) (lW a pre f cells st wh x c) := by
  rw [uF h, hop]
  simp only [Int.reduceEq, decide_true, decide_false, cond_true, cond_false]
  unfold iV EI wE wD
  simp only [oV, Int.toNat_natCast, qU, hop, Int.reduceEq, decide_true, decide_false, cond_true, cond_false]
  have hv := h.reg hr
  rw [hv.1]
  simp only [bnd]
  unfold lW
  simp only [hop, Int.reduceEq, if_true, if_false]
  by_cases hk : (gJ f.regs c.a).kind = 2
  · have hcell := O3 h.O1 hv.2 hk
    rw [dF (by omega), cond_false, hcell.1]
    simp only [bnd]
    by_cases hl : ((cellAt cells (gJ f.regs c.a).n).length : Int) ≤ c.c
    · rw [dT hl, cond_true, if_pos (by omega)]
      exact ⟨_, _, _, rfl, rfl⟩
    · rw [dF hl, cond_false, if_neg (by omega), (h.reg hb).1, bnd, R6 hc.1 (by omega), bnd]
      exact ⟨_, _, _, rfl, rfl, rfl, rfl⟩
  · rw [dT hk, cond_true, if_pos (.inl hk)]
    exact ⟨_, _, _, rfl, rfl⟩
theorem Ab (g : LX.Frame) : df ⟨pre ++ [g], cells, st, wh⟩ = ⟨pre.map (za (dh ⟨pre ++ [g], cells, st, wh⟩)) ++ [za (dh ⟨pre ++ [g], cells, st, wh⟩) g], (df ⟨pre ++ [g], cells, st, wh⟩).cells, st, wh⟩ := by
  unfold df; simp
theorem LB {s : LX.State} (h : Cr s) : (df s).cells.length ≤ s.cells.length ∧ (df s).cells.length ≤ 24 := by
  have h1 := h.reach.1.len
  have := h.cells.1
  unfold df; simp; omega
theorem O4 (p2 : List LX.Frame) (g : LX.Frame) (cs : List (List Val)) (hl : p2.length ≤ 20) (hcs : cs.length ≤ 24) (hr : wU g.regs.length c.a) (hb : 1 ≤ c.b ∧ c.b ≤ 4) : ∃ ok t, qC c (p2 ++ [g]) cs st wh = some (ok, t) ∧ match Kw ⟨p2 ++ [g], cs, st, wh⟩ c with | none => ok = false | some u => ok = true ∧ t = u := by
  unfold qC Kw
  simp only [oV]
  by_cases h : cs.length = 24
  · rw [dT (by omega), cond_true, if_pos h]; exact ⟨_, _, rfl, rfl⟩
  · rw [dF (by omega), cond_false, if_neg h, gI (by omega) (by omega), E5, bnd, (yh rfl hr).1, bnd, xG (by omega), xG (room_le (by simp; omega) (by decide)), Int.toNat_natCast, qU]
    refine ⟨_, _, rfl, rfl, ?_⟩
    simp
theorem step5 (ha : mg a) (hN : 100 ≤ N) (h : nW a pre f cells x c) (hop : c.op = 5) (hr : wU x.regs c.a) (hb : 1 ≤ c.b ∧ c.b ≤ 4) : R1 (oN N ⟨pre ++ [f], cells, st, wh⟩ a) (lW a pre f cells st wh x c) := by
  rw [uF h, hop]
  simp only [Int.reduceEq, decide_true, decide_false, cond_true, cond_false]
  unfold iV I7
  simp only [oV, Int.toNat_natCast, qU, hop, Int.reduceEq, decide_true, decide_false, cond_true, cond_false]
  unfold lW
  simp only [hop, Int.reduceEq, if_true, if_false]
  have hm := h.many
  have hsw := nW.sw ha h (st := st) (wh := wh) h.zf
  have hrr : wU (zf f x).regs.length c.a := by have := h.zf.regs; rw [this]; exact hr
  have fin : ∀ s2 : LX.State, (∃ ok t, qC c s2.frames s2.cells s2.status s2.aK = some (ok, t) ∧ match Kw s2 c with | none => ok = false | some u => ok = true ∧ t = u) →
      R1 ((qC c s2.frames s2.cells s2.status s2.aK).bind fun y => some ((⟨false, 0, false⟩ : Dv), y.1, y.2)) ((Kw s2 c).map fun t => (t, none, false)) := by
    rintro s2 ⟨ok, t, h1, h2⟩
    rw [h1, bnd]
    cases e : Kw s2 c with
    | none => rw [e] at h2; exact ⟨_, _, _, rfl, h2⟩
    | some u => rw [e] at h2; exact ⟨_, _, _, rfl, h2.1, h2.2, rfl⟩
  by_cases UE : cells.length = 24
  · rw [dT (by omega), cond_true, if_pos UE]
    have e1 : ({ f with at_ := min (f.at_ + 1) ((x.code.length : Int) - 1) } : LX.Frame) = zf f x := rfl
    rw [e1, EZ hN hsw, bnd]
    refine fin _ ?_
    rw [Ab]
    exact O4 _ _ _ (by simp; omega) (LB hsw).2 (by simpa [za] using hrr) hb
  · rw [dF (by omega), cond_false, if_neg UE]
    exact fin ⟨pre ++ [zf f x], cells, st, wh⟩ (O4 _ _ _ (by omega) h.O1.1 hrr hb)
theorem LC {ρ : Type} {body : Int → Int → List Val → (List Val → Option ρ) → Option ρ} {K : List Val → Option ρ} {r : Int → Val} {P : Int → Prop}
    (hb : ∀ (i : Nat) k y nx, i < y.length → P k → body (i : Int) k y nx = nx (y.set i (r k))) : ∀ (l : List Int) (done rest : List Val), (∀ k ∈ l, P k) → l.length ≤ rest.length → eO body K (done.length : Int) l (done ++ rest) = K (done ++ l.map r ++ rest.drop l.length)
  | [], done, rest, _, _ => by simp [eO]
  | k :: l, done, z :: rest, h, hl => by
    rw [iT, hb done.length k (done ++ z :: rest) _ (by simp) (h k (by simp)), show (done ++ z :: rest).set done.length (r k) = (done ++ [r k]) ++ rest by simp, show ((done.length : Int) + 1) = ((done ++ [r k]).length : Nat) by simp, LC hb l (done ++ [r k]) rest (fun q hq => h q (List.mem_cons_of_mem _ hq)) (by simpa using hl)]
    simp
  | k :: l, done, [], h, hl => by simp at hl
theorem step7 (ha : mg a) (h : nW a pre f cells x c) (hop : c.op = 7) (hr : wU x.regs c.a) {p : bN} (hp : idx a c.b = some p) (hl : (c.args.length : Int) = p.params) (hargs : ∀ k ∈ c.args, wU x.regs k) : R1 (oN N ⟨pre ++ [f], cells, st, wh⟩ a) (lW a pre f cells st wh x c) := by
  rw [uF h, hop]
  simp only [Int.reduceEq, decide_true, decide_false, cond_true, cond_false]
  unfold iV MR
  simp only [oV, Int.toNat_natCast, qU, hop, Int.reduceEq, decide_true, decide_false, cond_true, cond_false]
  unfold lW
  simp only [hop, Int.reduceEq, if_true, if_false]
  have hm := h.many
  have hpr := ha.mem hp
  by_cases h10 : pre.length + 1 = 10
  · rw [dT (by simp; omega), cond_true, if_pos h10]; exact ⟨_, _, _, rfl, rfl⟩
  · rw [dF (by simp; omega), cond_false, if_neg h10, hp, bnd, xG (by omega)]
    have UN := LC (K := uX ⟨pre ++ [zf f x], cells, st, wh⟩ c a) (body := uW ⟨pre ++ [zf f x], cells, st, wh⟩) (r := gJ f.regs) (P := fun k => wU x.regs k) (fun i k y nx hi hk => by
      unfold uW
      simp only [oV]
      rw [gI (by omega) (by omega), E5, bnd]
      show ((idx f.regs k).bind fun zy => (idx y (i : Int)).bind fun x41 => nx (y.set ((i : Int)).toNat zy)) = _
      rw [(h.reg hk).1, bnd, xE hi, bnd, Int.toNat_natCast]) c.args [] (List.replicate p.regs.toNat ⟨0, 0⟩) hargs (by simp; omega)
    have hfill' : eO (uW ⟨pre ++ [zf f x], cells, st, wh⟩) (uX ⟨pre ++ [zf f x], cells, st, wh⟩ c a) 0 c.args (List.replicate p.regs.toNat ⟨0, 0⟩) = _ := UN
    have e1 : ({ f with at_ := min (f.at_ + 1) ((x.code.length : Int) - 1) } : LX.Frame) = zf f x := rfl
    rw [e1, hfill']
    unfold uX
    simp only
    rw [xG (room_le (by simp; omega) (by decide)), bnd]
    refine ⟨_, _, _, rfl, rfl, ?_, rfl⟩
    simp only [List.nil_append, List.drop_replicate, hp, Option.map_some, Option.getD_some]
    rw [show p.regs.toNat - c.args.length = (p.regs - (c.args.length : Int)).toNat by omega]
theorem step8 (ha : mg a) (h : nW a pre f cells x c) (hop : c.op = 8) (hr : wU x.regs c.a) : R1 (oN N ⟨pre ++ [f], cells, st, wh⟩ a) (lW a pre f cells st wh x c) := by
  rw [uF h, hop]
  simp only [Int.reduceEq, decide_true, decide_false, cond_true, cond_false]
  unfold iV MS
  simp only [oV, Int.toNat_natCast, qU, hop, Int.reduceEq, decide_true, decide_false, cond_true, cond_false]
  unfold lW
  simp only [hop, Int.reduceEq, if_true, if_false]
  have hm := h.many
  rw [(h.reg hr).1, bnd, gI (by omega) (by omega)]
  rw [show sub? (pre ++ [({ f with at_ := min (f.at_ + 1) ((x.code.length : Int) - 1) } : LX.Frame)]) 0 (pre.length : Int) = some pre by unfold sub?; rw [if_pos (by simp; omega)]; simp [cut], bnd]
  rw [show (pre ++ [({ f with at_ := min (f.at_ + 1) ((x.code.length : Int) - 1) } : LX.Frame)]).take pre.length = pre by simp]
  rcases List.eq_nil_or_concat pre with hp | ⟨q, g, hp⟩
  · subst hp
    exact ⟨_, _, _, rfl, rfl, rfl, rfl⟩
  · rw [List.concat_eq_append] at hp
    subst hp
    have hto := h.mH
    rw [Ee] at hto
    simp only [List.length_append, List.length_cons, List.length_nil] at hm
    rw [dF (by simp; omega), cond_false, oV, gI (by omega) (by omega), E5, bnd, (yh rfl hto).1, bnd, Int.toNat_natCast, qU, bnd]
    simp only [List.getLast?_append, List.getLast?_singleton, Option.some_or, List.dropLast_concat]
    exact ⟨_, _, _, rfl, rfl, rfl, rfl⟩
theorem Ac (h : nW a pre f cells x c) (hop : (c.op = 9 ∨ c.op = 11 ∨ c.op = 13) ∧ wU x.regs c.a ∨ c.op = 10 ∨ c.op = 12) : R1 (oN N ⟨pre ++ [f], cells, st, wh⟩ a) (lW a pre f cells st wh x c) := by
  rw [uF h]
  rcases hop with ⟨hop | hop | hop, hr⟩ | hop | hop
  · rw [hop]
    simp only [Int.reduceEq, decide_true, decide_false, cond_true, cond_false]
    unfold iV
    simp only [oV, Int.toNat_natCast, qU, hop, Int.reduceEq, decide_true, decide_false, cond_true, cond_false]
    unfold lW
    simp only [hop, Int.reduceEq, if_true, if_false]
    rw [(h.reg hr).1, bnd]
    by_cases hk : (gJ f.regs c.a).kind = 1
    · rw [dT hk, if_pos hk]; exact ⟨_, _, _, rfl, rfl, rfl, rfl⟩
    · rw [dF hk, if_neg hk]; exact ⟨_, _, _, rfl, rfl⟩
  · rw [hop]
    simp only [Int.reduceEq, decide_true, decide_false, cond_true, cond_false]
    unfold iV
    simp only [oV, Int.toNat_natCast, qU, hop, Int.reduceEq, decide_true, decide_false, cond_true, cond_false]
    unfold lW
    simp only [hop, Int.reduceEq, if_true, if_false]
    rw [(h.reg hr).1, bnd]
    by_cases hk : (gJ f.regs c.a).kind = 1
    · rw [dF (by omega), cond_false, if_pos hk]; exact ⟨_, _, _, rfl, rfl, rfl, rfl⟩
    · rw [dT hk, cond_true, if_neg hk]; exact ⟨_, _, _, rfl, rfl⟩
  · rw [hop]
    simp only [Int.reduceEq, decide_true, decide_false, cond_true, cond_false]
    unfold iV
    simp only [oV, Int.toNat_natCast, qU, hop, Int.reduceEq, decide_true, decide_false, cond_true, cond_false]
    unfold lW
    simp only [hop, Int.reduceEq, if_true, if_false]
    have hv := h.reg hr
    rw [hv.1, bnd]
    have hval := hv.2
    unfold ib at hval
    by_cases hk : (gJ f.regs c.a).kind ≠ 2 ∧ (gJ f.regs c.a).n = 0
    · rw [if_pos hk, show (decide ((gJ f.regs c.a).kind = 0) || (decide ((gJ f.regs c.a).kind = 1) && decide ((gJ f.regs c.a).n = 0))) = true by simp; omega, cond_true]
      exact ⟨_, _, _, rfl, rfl, rfl, rfl⟩
    · rw [if_neg hk, show (decide ((gJ f.regs c.a).kind = 0) || (decide ((gJ f.regs c.a).kind = 1) && decide ((gJ f.regs c.a).n = 0))) = false by rw [Bool.or_eq_false_iff, Bool.and_eq_false_iff]; simp only [decide_eq_false_iff_not]; omega, cond_false]
      exact ⟨_, _, _, rfl, rfl, rfl, rfl⟩
  · rw [hop]
    simp only [Int.reduceEq, decide_true, decide_false, cond_true, cond_false]
    unfold iV
    simp only [oV, Int.toNat_natCast, qU, hop, Int.reduceEq, decide_true, decide_false, cond_true, cond_false]
    unfold lW
    simp only [hop, Int.reduceEq, if_true, if_false]
    exact ⟨_, _, _, rfl, rfl, rfl, rfl⟩
  · rw [hop]
    simp only [Int.reduceEq, decide_true, decide_false, cond_true, cond_false]
    unfold iV
    simp only [oV, Int.toNat_natCast, qU, hop, Int.reduceEq, decide_true, decide_false, cond_true, cond_false]
    unfold lW
    simp only [hop, Int.reduceEq, if_true, if_false]
    exact ⟨_, _, _, rfl, rfl, rfl, rfl⟩
theorem Q0 (ha : mg a) (hN : 100 ≤ N) (h : nW a pre f cells x c) : R1 (oN N ⟨pre ++ [f], cells, st, wh⟩ a) (lW a pre f cells st wh x c) := by
  rcases h.good with g | g | g | g | g | g | g | g | g | g
  · exact step1 h g.1 g.2.1
  · exact step2 h g.1 g.2.1 g.2.2
  · obtain ⟨g1, g2, g3, g4, n, g5, g6, g7⟩ := g
    exact step3 h g1 g2 g3 g4 g5 ⟨g6, g7⟩
  · obtain ⟨g1 | g1, g2, g3, g4⟩ := g
    · exact Uo h g1 g2 g3 g4
    · exact Uq h g1 g2 g3 g4
  · exact step5 ha hN h g.1 g.2.1 g.2.2
  · obtain ⟨g1, g2, ⟨p, g3, g4⟩, g5⟩ := g
    exact step7 ha h g1 g2 g3 g4 g5
  · obtain ⟨g1 | g1 | g1, g2⟩ := g
    · exact step8 ha h g1 g2
    · exact Ac h (.inl ⟨.inl g1, g2⟩)
    · exact Ac h (.inl ⟨.inr (.inl g1), g2⟩)
  · exact Ac h (.inr (.inl g))
  · exact Ac h (.inr (.inr g.1))
  · exact Ac h (.inl ⟨.inr (.inr g.1), g.2.1⟩)
end
end Go.Proofs.YtfclkapelkhlpaaGreatDoor
namespace Go.Proofs.YtfclkapelkhlpaaGreatDoor
open Go Go.Proofs Go.LX
theorem ib.up {n m : Nat} {v : Val} (h : ib n v) (hm : n ≤ m) : ib m v := by unfold ib at *; omega
theorem y5.up {a : List bN} {n m : Nat} {f : LX.Frame} {x : bN} (h : y5 a n f x) (hm : n ≤ m) : y5 a m f x := ⟨h.proc, h.at_, h.regs, fun v hv => (h.vals v hv).up hm⟩
theorem Cs {a : List bN} {n m : Nat} (hm : n ≤ m) : ∀ {l : List LX.Frame} {t : Int}, jB a n t l → jB a m t l
  | [], _, _ => trivial
  | f :: l, t, h => by obtain ⟨⟨x, g⟩, h2, h3⟩ := h; exact ⟨⟨x, g.up hm⟩, h2, Cs hm h3⟩
theorem Q3 {n : Nat} {l : List Int} {v : Val} (h : ib n v) (hr : v.kind = 2 → v.n ∈ l) : ib l.length (ren l v) := by
  unfold ren
  by_cases hk : v.kind = 2
  · rw [if_pos hk]
    have := List.idxOf_lt_length_of_mem (hr hk)
    unfold ib
    simp only
    omega
  · rw [if_neg hk]; unfold ib at *; omega
theorem y5.ren {a : List bN} {n : Nat} {l : List Int} {f : LX.Frame} {x : bN} (h : y5 a n f x) (hr : fU f.regs l) : y5 a l.length (za l f) x where
  proc := h.proc
  at_ := h.at_
  regs := by unfold za; simpa using h.regs
  vals v hv := by
    unfold za at hv
    simp only [List.mem_map] at hv
    obtain ⟨w, hw, rfl⟩ := hv
    exact Q3 (h.vals w hw) (hr w hw)
theorem E8 {a : List bN} {n : Nat} {r : List Int} : ∀ {l : List LX.Frame} {t : Int}, jB a n t l → (∀ f ∈ l, fU f.regs r) → jB a r.length t (l.map (za r))
  | [], _, _, _ => trivial
  | f :: l, t, h, hr => by
    obtain ⟨⟨x, g⟩, h2, h3⟩ := h
    refine ⟨⟨x, g.ren (hr f (by simp))⟩, h2, ?_⟩
    have := E8 h3 (fun k hk => hr k (List.mem_cons_of_mem _ hk))
    simpa [za] using this
theorem Ct {s : LX.State} (h : Cr s) : mY (df s).cells := by
  have hr := h.reach
  have hl := hr.1.len
  have hn := h.cells.1
  refine ⟨by simp [df]; omega, fun c hc => ?_⟩
  unfold df at hc ⊢
  simp only [List.mem_map, List.length_map] at hc ⊢
  obtain ⟨k, hk, rfl⟩ := hc
  have hk2 := h.cells.at (hr.1.2 k hk)
  refine ⟨by simpa using hk2.1, fun v hv => ?_⟩
  obtain ⟨w, hw, rfl⟩ := List.mem_map.1 hv
  exact Q3 (hk2.2 w hw) (hr.2.2 k hk w hw)
theorem O5 {a : List bN} (ha : mg a) {s : LX.State} (h : pF a s) : pF a (df s) where
  status := h.status
  aK := h.aK
  stay := h.stay
  ended := by rw [show (df s).status = s.status from rfl, h.ended]; simp [df]
  many := by simpa [df] using h.many
  cells := Ct (h.sw ha)
  frames := by
    have hr := (h.sw ha).reach
    have := E8 h.frames (yg hr.2.1)
    simpa [df] using this
theorem O6 {n : Nat} {r : List Val} {i : Nat} {v : Val} (h : ∀ w ∈ r, ib n w) (hv : ib n v) : ∀ w ∈ r.set i v, ib n w := fun w hw => by
  rcases List.mem_or_eq_of_mem_set hw with hw | rfl
  · exact h w hw
  · exact hv
section
variable {a : List bN} {pre : List LX.Frame} {f : LX.Frame} {cells : List (List Val)} {wh : Int} {x : bN} {c : Ins} {N : Nat}
theorem nW.st (h : nW a pre f cells x c) {g : LX.Frame} {y : bN} {cs : List (List Val)} {s w : Int} (hg : y5 a cs.length g y) (hto : g.mH = f.mH) (hc : mY cs) (hl : cells.length ≤ cs.length) (hs : (s = 0 ∧ w = 0) ∨ (s = 3 ∧ -1000000000 ≤ w ∧ w ≤ 1000000000)) : pF a ⟨pre ++ [g], cs, s, w⟩ where
  status := by simp only; omega
  aK := by simp only; omega
  stay := by simp only; omega
  ended := by simp; omega
  many := by have := h.many; simp; omega
  cells := hc
  frames := kL.2 ⟨Cs hl h.chain, ⟨y, hg⟩, by rw [hto]; exact h.mH⟩
theorem opP_ok {n : Nat} {k : Int} {b c v : Val} (hk : 1 ≤ k ∧ k ≤ 5) (h : R5 k b c = some v) : ib n v := by
  unfold R5 at h
  split at h
  · cases h; split <;> (unfold ib; simp)
  split at h
  · cases h
  split at h
  · cases h; split <;> (unfold ib; simp)
  simp only at h
  generalize (if k = 1 then b.n + c.n else if k = 2 then b.n - c.n else b.n * c.n) = z at h
  split at h
  · rename_i hz; cases h; exact .inr (.inl ⟨rfl, hz.1, hz.2⟩)
  · cases h
theorem y5.put {n : Nat} {f : LX.Frame} {x : bN} (h : y5 a n f x) {i : Nat} {v : Val} (hv : ib n v) : y5 a n { f with regs := f.regs.set i v } x := ⟨h.proc, h.at_, by simpa using h.regs, O6 h.vals hv⟩
theorem y5.jump {n : Nat} {f : LX.Frame} {x : bN} (h : y5 a n f x) {b : Int} (hb : 0 ≤ b ∧ b < x.code.length) : y5 a n { f with at_ := b } x := ⟨h.proc, hb, h.regs, h.vals⟩
theorem R7 {s t : LX.State} {g : LX.Frame} (h : Kw ⟨pre ++ [g], cells, 0, wh⟩ c = some t) (hs : pF a ⟨pre ++ [g], cells, 0, wh⟩) (hb : 1 ≤ c.b ∧ c.b ≤ 4) : pF a t ∧ t.status = 0 := by
  unfold Kw at h
  split at h
  · cases h
  rename_i UE
  simp only [List.dropLast_concat, List.getLast?_append, List.getLast?_singleton, Option.some_or, Option.map_some, Option.toList_some] at h UE
  cases h
  obtain ⟨h1, ⟨x, h2⟩, h3⟩ := kL.1 hs.frames
  have hc := hs.cells
  simp only at h1 h2 h3 hc
  have hle : cells.length ≤ (cells ++ [List.replicate c.b.toNat (⟨0, 0⟩ : Val)]).length := by simp
  refine ⟨⟨hs.status, hs.aK, hs.stay, by simp, by simpa using hs.many, ⟨?_, ?_⟩, kL.2 ⟨Cs hle h1, ⟨x, (h2.up hle).put ?_⟩, h3⟩⟩, rfl⟩
  · have := hc.1; simp; omega
  · intro d hd
    rcases List.mem_append.1 hd with hd | hd
    · have := hc.2 d hd
      exact ⟨this.1, fun v hv => (this.2 v hv).up hle⟩
    · simp at hd; subst hd
      refine ⟨by simp; omega, fun v hv => ?_⟩
      have := List.eq_of_mem_replicate hv
      subst this
      unfold ib; simp
  · unfold ib; simp; try omega
theorem Q4 (ha : mg a) (h : nW a pre f cells x c) (hw : wh = 0) {t : LX.State} {said : Option Int} {p : Bool} (hs : lW a pre f cells 0 wh x c = some (t, said, p)) :
    pF a t ∧ (t.status = 0 ∨ t.status = 1 ∧ p = false ∨ t.status = 3 ∧ p = true) ∧ (said.isSome → t.status = 0 ∧ c.op = 9) := by
  subst hw
  have Ur := h.zf
  have hput : ∀ {v : Val}, ib cells.length v → pF a ⟨pre ++ [{ zf f x with regs := f.regs.set c.a.toNat v }], cells, 0, 0⟩ := fun hv => h.st (Ur.put hv) rfl h.O1 (Nat.le_refl _) (.inl ⟨rfl, rfl⟩)
  have Ad : pF a ⟨pre ++ [zf f x], cells, 0, 0⟩ := h.st Ur rfl h.O1 (Nat.le_refl _) (.inl ⟨rfl, rfl⟩)
  have O7 : (0 ≤ c.b ∧ c.b < x.code.length) → pF a ⟨pre ++ [{ zf f x with at_ := c.b }], cells, 0, 0⟩ := fun hb => h.st (Ur.jump hb) rfl h.O1 (Nat.le_refl _) (.inl ⟨rfl, rfl⟩)
  unfold lW at hs
  rcases h.good with g | g | g | g | g | g | g | g | g | g
  · obtain ⟨hop, hr, hb⟩ := g
    simp only [hop, Int.reduceEq, if_true, if_false] at hs
    cases hs
    exact ⟨hput (.inr (.inl ⟨rfl, hb.1, hb.2⟩)), .inl rfl, by simp⟩
  · obtain ⟨hop, hr, hb⟩ := g
    simp only [hop, Int.reduceEq, if_true, if_false] at hs
    cases hs
    exact ⟨hput (h.reg hb).2, .inl rfl, by simp⟩
  · obtain ⟨hop, hr, hb, hc, n, hn, hn1⟩ := g
    simp only [hop, hn, Int.reduceEq, if_true, if_false, List.headD_cons] at hs
    obtain ⟨v, hv, hs⟩ := Option.map_eq_some_iff.1 hs
    cases hs
    exact ⟨hput (opP_ok hn1 hv), .inl rfl, by simp⟩
  · obtain ⟨hop, hr, hb, hc⟩ := g
    rcases hop with hop | hop
    · simp only [hop, Int.reduceEq, if_true, if_false] at hs
      split at hs
      · cases hs
      · rename_i hbad
        cases hs
        have hk : (gJ f.regs c.b).kind = 2 := by omega
        have hv := (h.reg hb).2
        have hcell := h.O1.at (hv.ref hk)
        exact ⟨hput (hcell.2 _ (yh rfl ⟨hc.1, by omega⟩).2), .inl rfl, by simp⟩
    · simp only [hop, Int.reduceEq, if_true, if_false] at hs
      split at hs
      · cases hs
      · rename_i hbad
        cases hs
        have hk : (gJ f.regs c.a).kind = 2 := by omega
        have hv := (h.reg hr).2
        have hcell := h.O1.at (hv.ref hk)
        refine ⟨h.st (by simpa using Ur) rfl ⟨by simpa using h.O1.1, fun d hd => ?_⟩ (by simp) (.inl ⟨rfl, rfl⟩), .inl rfl, by simp⟩
        rw [List.length_set]
        rcases List.mem_or_eq_of_mem_set hd with hd | rfl
        · exact h.O1.2 d hd
        · exact ⟨by simpa using hcell.1, O6 hcell.2 (h.reg hb).2⟩
  · obtain ⟨hop, hr, hb⟩ := g
    simp only [hop, Int.reduceEq, if_true, if_false] at hs
    obtain ⟨u, hu, hs⟩ := Option.map_eq_some_iff.1 hs
    cases hs
    split at hu
    · have hsw := O5 ha Ad
      rw [Ab] at hu hsw
      have := R7 (s := t) hu hsw hb
      exact ⟨this.1, .inl this.2, by simp⟩
    · have := R7 (s := t) hu Ad hb
      exact ⟨this.1, .inl this.2, by simp⟩
  · obtain ⟨hop, hr, ⟨p1, hp, hl⟩, hargs⟩ := g
    simp only [hop, Int.reduceEq, if_true, if_false] at hs
    split at hs
    · cases hs
    · rename_i h10
      cases hs
      have hpr := ha.mem hp
      have hm := h.many
      refine ⟨⟨by simp, by simp, by simp, by simp, by simp; omega, h.O1, kL.2 ⟨Ad.frames, ⟨p1, ⟨hp, ?_, ?_, ?_⟩⟩, ?_⟩⟩, .inl rfl, by simp⟩
      · have := hpr.2.2.2; unfold qR at this; simp only; omega
      · simp only [hp, Option.map_some, Option.getD_some, List.length_append, List.length_map, List.length_replicate]; omega
      · intro v hv
        rcases List.mem_append.1 hv with hv | hv
        · obtain ⟨k, hk, rfl⟩ := List.mem_map.1 hv
          exact (h.reg (hargs k hk)).2
        · have := List.eq_of_mem_replicate hv
          subst this; unfold ib; simp
      · simp only [List.getLast?_append, List.getLast?_singleton, Option.some_or]
        have h1 := Ur.regs
        rw [h1]; exact hr
  · obtain ⟨hop, hr⟩ := g
    rcases hop with hop | hop | hop
    · simp only [hop, Int.reduceEq, if_true, if_false] at hs
      rcases List.eq_nil_or_concat pre with hp | ⟨q, g, hp⟩
      · subst hp
        simp only [List.getLast?_nil] at hs
        cases hs
        exact ⟨⟨by simp, by simp, by simp, by simp, by simp, h.O1, trivial⟩, .inr (.inl ⟨rfl, rfl⟩), by simp⟩
      · rw [List.concat_eq_append] at hp
        subst hp
        simp only [List.getLast?_append, List.getLast?_singleton, Option.some_or, List.dropLast_concat] at hs
        cases hs
        obtain ⟨c1, ⟨y, c2⟩, c3⟩ := kL.1 h.chain
        have hm := h.many
        simp only [List.length_append, List.length_cons, List.length_nil] at hm
        exact ⟨⟨by simp, by simp, by simp, by simp, by simp; omega, h.O1, kL.2 ⟨c1, ⟨y, c2.put (h.reg hr).2⟩, c3⟩⟩, .inl rfl, by simp⟩
    · simp only [hop, Int.reduceEq, if_true, if_false] at hs
      split at hs
      · cases hs; exact ⟨Ad, .inl rfl, fun _ => ⟨rfl, hop⟩⟩
      · cases hs
    · simp only [hop, Int.reduceEq, if_true, if_false] at hs
      split at hs
      · rename_i hk
        cases hs
        exact ⟨h.st Ur rfl h.O1 (Nat.le_refl _) (.inr ⟨rfl, (h.reg hr).2.int hk⟩), .inr (.inr ⟨rfl, rfl⟩), by simp⟩
      · cases hs
  · simp only [g, Int.reduceEq, if_true, if_false] at hs
    cases hs; exact ⟨Ad, .inl rfl, by simp⟩
  · obtain ⟨hop, hb⟩ := g
    simp only [hop, Int.reduceEq, if_true, if_false] at hs
    cases hs; exact ⟨O7 hb, .inl rfl, by simp⟩
  · obtain ⟨hop, hr, hb⟩ := g
    simp only [hop, Int.reduceEq, if_true, if_false] at hs
    cases hs
    split
    · exact ⟨O7 hb, .inl rfl, by simp⟩
    · exact ⟨Ad, .inl rfl, by simp⟩
end
end Go.Proofs.YtfclkapelkhlpaaGreatDoor
namespace Go.Proofs.YtfclkapelkhlpaaGreatDoor
open Go Go.Proofs Go.LX
def R8 (a : List bN) (f : LX.Frame) : Option (bN × Ins) := (idx a f.proc).bind fun x => (idx x.code f.at_).map fun c => (x, c)
def uG (a : List bN) (s : LX.State) : Option (LX.State × Option Int × Bool) :=
  s.frames.getLast?.bind fun f => (R8 a f).bind fun q => lW a s.frames.dropLast f s.cells s.status s.aK q.1 q.2
def Cu (a : List bN) (s : LX.State) : Int := ((s.frames.getLast?.bind fun f => R8 a f).map fun q => q.2.op).getD 0
def Bw (a : List bN) : Nat → List Int → Nat → LX.State → LX.State × List Int × Nat
  | 0, said, n, s => (s, said, n)
  | m + 1, said, n, s =>
    if s.status ≠ 0 then (s, said, n) else
    if said.length = 40 ∧ Cu a s = 9 then (s, said, n) else
    match uG a s with
    | none => ({ s with status := 2 }, said, n + 1)
    | some (t, o, p) => if p then (t, said ++ o.toList, n + 1) else Bw a m (said ++ o.toList) (n + 1) t
theorem Ae {a : List bN} (ha : mg a) {s : LX.State} (h : pF a s) (hs : s.status = 0) : ∃ pre f x c, s = ⟨pre ++ [f], s.cells, 0, 0⟩ ∧ nW a pre f s.cells x c ∧ uG a s = lW a pre f s.cells 0 0 x c ∧ Cu a s = c.op := by
  obtain ⟨fr, cells, st, wh⟩ := s
  simp only at hs
  subst hs
  have hw : wh = 0 := h.stay (by simp)
  subst hw
  rcases List.eq_nil_or_concat fr with hp | ⟨pre, f, hp⟩
  · have := h.ended.2 hp; simp at this
  · rw [List.concat_eq_append] at hp
    subst hp
    obtain ⟨x, c, g⟩ := top_ok ha h
    refine ⟨pre, f, x, c, rfl, g, ?_, ?_⟩
    · unfold uG R8
      simp only [List.getLast?_append, List.getLast?_singleton, Option.some_or, List.dropLast_concat, bnd, g.fr.proc, g.ins, Option.map_some]
    · unfold Cu R8
      simp only [List.getLast?_append, List.getLast?_singleton, Option.some_or, bnd, g.fr.proc, g.ins, Option.map_some, Option.getD_some]
theorem Us {a : List bN} (ha : mg a) {s : LX.State} (h : pF a s) (hs : s.status = 0) {N : Nat} (hN : 100 ≤ N) : R1 (oN N s a) (uG a s) := by
  obtain ⟨pre, f, x, c, h1, h2, h3, -⟩ := Ae ha h hs
  rw [h3]
  generalize s.cells = cells at *
  subst h1
  exact Q0 ha hN h2
theorem yK {a : List bN} (ha : mg a) {s : LX.State} (h : pF a s) (hs : s.status = 0) {t : LX.State} {o : Option Int} {p : Bool} (hq : uG a s = some (t, o, p)) :
    pF a t ∧ (t.status = 0 ∨ t.status = 1 ∧ p = false ∨ t.status = 3 ∧ p = true) ∧ (o.isSome → t.status = 0 ∧ Cu a s = 9) := by
  obtain ⟨pre, f, x, c, h1, h2, h3, h4⟩ := Ae ha h hs
  rw [h3] at hq
  rw [h4]
  exact Q4 ha h2 rfl hq
theorem Ut {a : List bN} (ha : mg a) {s : LX.State} (h : pF a s) (hs : s.status = 0) : (s.frames.length ≤ 10 ∧ 1 ≤ s.frames.length) ∧ ∃ f x c, idx s.frames ((s.frames.length : Int) - 1) = some f ∧ idx a f.proc = some x ∧ idx x.code f.at_ = some c ∧ c.op = Cu a s := by
  obtain ⟨pre, f, x, c, h1, h2, h3, h4⟩ := Ae ha h hs
  refine ⟨⟨h.many, by rw [h1]; simp⟩, f, x, c, ?_, h2.fr.proc, h2.ins, h4.symm⟩
  have : s.frames = pre ++ [f] := by rw [h1]
  rw [this, oV, E5]
theorem YV {a : List bN} {s : LX.State} (h : pF a s) (hs : s.status = 0) : pF a { s with status := 2 } := by
  have hw : s.aK = 0 := h.stay (by omega)
  refine ⟨by simp, h.aK, fun _ => hw, ?_, h.many, h.cells, h.frames⟩
  constructor
  · intro e; simp at e
  · intro e
    have := h.ended.2 e
    omega
theorem O8 {a : List bN} (ha : mg a) {N : Nat} (hN : 100 ≤ N) (c : Int) : ∀ (m M : Nat) (said : List Int) (n : Nat) (s : LX.State), pF a s → said.length ≤ 40 → c = (n : Int) + m → c ≤ 2000 → m < M →
    again (su N c a) M (said, (n : Int), s.frames, s.cells, s.status, s.aK) = some ((Bw a m said n s).1, (Bw a m said n s).2.1, ((Bw a m said n s).2.2 : Int), 0)
  | m, 0, said, n, s, h, hl, hc, hb, hM => by omega
  | 0, M + 1, said, n, s, h, hl, hc, hb, hM => by
    rw [ET]
    unfold su sS Bw
    simp only
    rw [show (decide ((n : Int) < c) && decide ((s.status : Int) = 0)) = false by rw [dF (by omega)]; rfl, cond_false]
  | m + 1, M + 1, said, n, s, h, hl, hc, hb, hM => by
    rw [ET]
    have ih := O8 ha hN c m M
    generalize again (su N c a) M = K at ih ⊢
    unfold su Bw
    simp only
    by_cases hs : s.status = 0
    · rw [dT (by omega), dT hs, Bool.true_and, cond_true, if_neg (by omega)]
      obtain ⟨hfr, f, x, i, r1, r2, r3, r4⟩ := Ut ha h hs
      rw [gI (by omega) (by omega), r1, bnd]
      have go : xY N said n s.frames s.cells s.status s.aK a K false = some (match uG a s with
          | none => ({ s with status := 2 }, said, ((n + 1 : Nat) : Int), 0)
          | some (t, o, p) => if p then (t, said ++ o.toList, ((n + 1 : Nat) : Int), 0) else ((Bw a m (said ++ o.toList) (n + 1) t).1, (Bw a m (said ++ o.toList) (n + 1) t).2.1, ((Bw a m (said ++ o.toList) (n + 1) t).2.2 : Int), 0)) ∨ (said.length = 40 ∧ Cu a s = 9) := by
        by_cases hstop : said.length = 40 ∧ Cu a s = 9
        · exact .inr hstop
        left
        unfold xY
        rw [cond_false, show (⟨s.frames, s.cells, s.status, s.aK⟩ : LX.State) = s from rfl, copy_eq (h.small ha), bnd]
        obtain ⟨o, ok, s', e1, e2⟩ := Us ha h hs hN
        rw [e1, bnd, gI (by omega) (by omega)]
        cases eq : uG a s with
        | none =>
          rw [eq] at e2
          simp only at e2
          subst e2
          simp only [Bool.not_false, cond_true]
          unfold sS
          push_cast; rfl
        | some q =>
          obtain ⟨t, o2, p⟩ := q
          rw [eq] at e2
          obtain ⟨rfl, rfl, rfl⟩ := e2
          have hk := yK ha h hs eq
          simp only [Bool.not_true, cond_false]
          have fin : ∀ l, l = said ++ o2.toList → l.length ≤ 40 → xX (⟨o2.isSome, o2.getD 0, p⟩, true, s') n K l = some (if p then (s', said ++ o2.toList, ((n + 1 : Nat) : Int), 0) else ((Bw a m (said ++ o2.toList) (n + 1) s').1, (Bw a m (said ++ o2.toList) (n + 1) s').2.1, ((Bw a m (said ++ o2.toList) (n + 1) s').2.2 : Int), 0)) := by
            intro l hl1 hl2
            subst hl1
            unfold xX sS
            simp only
            cases p with
            | true => rw [cond_true, if_pos rfl]; push_cast; rfl
            | false =>
              rw [cond_false, if_neg (by simp)]
              have := ih (said ++ o2.toList) (n + 1) s' hk.1 hl2 (by push_cast; omega) hb (by omega)
              rw [← this]; push_cast; rfl
          cases o2 with
          | none =>
            simp only [Option.isSome_none, cond_false]
            exact fin said (by simp) hl
          | some z =>
            have h9 := (hk.2.2 rfl).2
            simp only [Option.isSome_some, cond_true]
            rw [xG (room_le (by simp; omega) (by decide))]
            exact fin (said ++ [z]) (by simp) (by simp; omega)
      by_cases h40 : said.length = 40
      · rw [dT (by omega), cond_true, r2, bnd, r3, bnd, r4]
        by_cases h9 : Cu a s = 9
        · rw [if_pos ⟨h40, h9⟩, dT h9]; rfl
        · rw [if_neg (fun e => h9 e.2), dF h9]
          rcases go with go | go
          · rw [go]; cases uG a s with
            | none => rfl
            | some q => obtain ⟨t, o, p⟩ := q; cases p <;> rfl
          · exact absurd go.2 h9
      · rw [dF (by omega), cond_false, if_neg (fun e => h40 e.1)]
        rcases go with go | go
        · rw [go]; cases uG a s with
          | none => rfl
          | some q => obtain ⟨t, o, p⟩ := q; cases p <;> rfl
        · exact absurd go.1 h40
    · rw [dF hs, Bool.and_false, cond_false, if_pos hs]; rfl
theorem LD (a : List bN) (s : LX.State) (c : Int) {N : Nat} (hN : 3000 ≤ N) : yT N a s c = some (if RV a ≠ 0 then (⟨[], [], 0, 0⟩, [], 0, RV a) else if UD a s ≠ 0 then (⟨[], [], 0, 0⟩, [], 0, UD a s) else if c < 0 ∨ 2000 < c then (⟨[], [], 0, 0⟩, [], 0, 3) else if s.status ≠ 0 then (⟨[], [], 0, 0⟩, [], 0, 7) else ((Bw a c.toNat [] 0 s).1, (Bw a c.toNat [] 0 s).2.1, ((Bw a c.toNat [] 0 s).2.2 : Int), 0)) := by
  unfold yT
  rw [Cn, bnd]
  by_cases h1 : RV a = 0
  · rw [if_neg (by omega), if_neg (by omega)]
    by_cases h2 : UD a s = 0
    · rw [dF (by omega), cond_false, if_neg (by omega)]
      by_cases h3 : c < 0 ∨ 2000 < c
      · rw [show (decide ((c : Int) < 0) || decide ((2000 : Int) < c)) = true by rw [Bool.or_eq_true]; simp only [decide_eq_true_eq]; exact h3, cond_true, if_pos h3]
      · rw [show (decide ((c : Int) < 0) || decide ((2000 : Int) < c)) = false by rw [Bool.or_eq_false_iff]; simp only [decide_eq_false_iff_not]; omega, cond_false, if_neg h3]
        by_cases h4 : s.status = 0
        · rw [dF (by omega), cond_false, if_neg (by omega)]
          have ha := ES h1
          have hs := JU.1 h2
          rw [copy_eq (hs.small ha), bnd]
          have := O8 ha (N := N) (by omega) c c.toNat N [] 0 s hs (by simp) (by omega) (by omega) (by omega)
          exact this
        · rw [dT h4, cond_true, if_pos h4]
    · rw [dT h2, cond_true, if_pos h2]
  · rw [if_pos h1, if_pos h1, dT h1, cond_true]
end Go.Proofs.YtfclkapelkhlpaaGreatDoor
namespace Go.Proofs.YtfclkapelkhlpaaGreatDoor
open Go Go.Proofs Go.LX
theorem Xy : 3000 ≤ NN := by decide
end Go.Proofs.YtfclkapelkhlpaaGreatDoor
namespace Go.Proofs.YtfclkapelkhlpaaGreatDoor
open Go Go.Proofs Go.LX
def nX (ρ : Int → Int) (v : Val) : Val := if v.kind = 2 then ⟨v.kind, ρ v.n⟩ else v
def iQ (ρ : Int → Int) (f : LX.Frame) : LX.Frame := { f with regs := f.regs.map (nX ρ) }
structure Hz (ρ : Int → Int) (R : List Int) (s t : LX.State) : Prop where
  frames : t.frames = s.frames.map (iQ ρ)
  status : t.status = s.status
  aK : t.aK = s.aK
  roots : fU (YtfclkapelkhlpaaGreatDoor.roots s.frames) R
  range : ∀ x ∈ R, 0 ≤ x ∧ x < s.cells.length
  range' : ∀ x ∈ R, 0 ≤ ρ x ∧ ρ x < t.cells.length
  inj : ∀ x ∈ R, ∀ y ∈ R, ρ x = ρ y → x = y
  cells : ∀ x ∈ R, cellAt t.cells (ρ x) = (cellAt s.cells x).map (nX ρ) ∧ fU (cellAt s.cells x) R
theorem sZ (ρ : Int → Int) (v : Val) : (nX ρ v).kind = v.kind := by unfold nX; split <;> rfl
theorem E9 (ρ : Int → Int) {v : Val} (h : v.kind = 2) : nX ρ v = ⟨v.kind, ρ v.n⟩ := if_pos h
theorem yL (ρ : Int → Int) {v : Val} (h : v.kind ≠ 2) : nX ρ v = v := if_neg h
section
variable {ρ : Int → Int} {R : List Int} {s t : LX.State}
theorem O9 (hi : ∀ x ∈ R, ∀ y ∈ R, ρ x = ρ y → x = y) {l : List Int} (hl : ∀ x ∈ l, x ∈ R) {x : Int} (hx : x ∈ R) : ρ x ∈ l.map ρ ↔ x ∈ l := by
  constructor
  · intro h
    obtain ⟨y, hy, e⟩ := List.mem_map.1 h
    rw [← hi y (hl y hy) x hx e]; exact hy
  · exact fun h => List.mem_map_of_mem h
theorem Dq (hi : ∀ x ∈ R, ∀ y ∈ R, ρ x = ρ y → x = y) : ∀ {l : List Int}, (∀ x ∈ l, x ∈ R) → ∀ {x : Int}, x ∈ R → (l.map ρ).idxOf (ρ x) = l.idxOf x
  | [], _, x, _ => rfl
  | y :: l, hl, x, hx => by
    rw [List.map_cons, List.idxOf_cons, List.idxOf_cons, Dq hi (fun z hz => hl z (List.mem_cons_of_mem _ hz)) hx]
    by_cases e : y = x
    · subst e; simp
    · have e2 : ρ y ≠ ρ x := fun h => e (hi y (hl y (by simp)) x hx h)
      rw [show (ρ y == ρ x) = false by simpa using e2, show (y == x) = false by simpa using e]
theorem Xz (hi : ∀ x ∈ R, ∀ y ∈ R, ρ x = ρ y → x = y) {l : List Int} (hl : ∀ x ∈ l, x ∈ R) {v : Val} (hv : v.kind = 2 → v.n ∈ R) : EW (l.map ρ) (nX ρ v) = (EW l v).map ρ ∧ ∀ x ∈ EW l v, x ∈ R := by
  unfold EW
  by_cases hk : v.kind = 2
  · rw [E9 ρ hk]
    simp only [hk, true_and]
    have hm' := O9 hi hl (hv hk)
    by_cases hm : v.n ∈ l
    · rw [if_neg (fun h => h (hm'.2 hm)), if_neg (fun h => h hm)]; exact ⟨rfl, hl⟩
    · rw [if_pos (fun h => hm (hm'.1 h)), if_pos hm]
      refine ⟨by simp, fun x hx => ?_⟩
      rcases List.mem_append.1 hx with hx | hx
      · exact hl x hx
      · simp at hx; subst hx; exact hv hk
  · rw [yL ρ hk, if_neg (fun h => hk h.1), if_neg (fun h => hk h.1)]; exact ⟨rfl, hl⟩
theorem JX (hi : ∀ x ∈ R, ∀ y ∈ R, ρ x = ρ y → x = y) : ∀ {vs : List Val} {l : List Int}, (∀ x ∈ l, x ∈ R) → fU vs R → EX (l.map ρ) (vs.map (nX ρ)) = (EX l vs).map ρ ∧ ∀ x ∈ EX l vs, x ∈ R
  | [], l, hl, _ => ⟨rfl, hl⟩
  | v :: vs, l, hl, hv => by
    obtain ⟨h1, h2⟩ := Xz hi hl (hv v (by simp))
    rw [List.map_cons, C8, C8, h1]
    exact JX hi h2 (fun w hw => hv w (List.mem_cons_of_mem _ hw))
theorem Hz.Kv (h : Hz ρ R s t) : ∀ (m k : Nat) (l : List Int), (∀ x ∈ l, x ∈ R) → Kv t.cells m k (l.map ρ) = (Kv s.cells m k l).map ρ ∧ ∀ x ∈ Kv s.cells m k l, x ∈ R
  | 0, k, l, hl => ⟨rfl, hl⟩
  | m + 1, k, l, hl => by
    unfold YtfclkapelkhlpaaGreatDoor.Kv
    by_cases hk : k < l.length
    · rw [dif_pos hk, dif_pos (by simpa using hk)]
      have hx := hl _ (List.getElem_mem hk)
      have hc := h.cells _ hx
      rw [List.getElem_map, hc.1]
      obtain ⟨h1, h2⟩ := JX h.inj hl hc.2
      rw [h1]
      exact Hz.Kv h m (k + 1) _ h2
    · rw [dif_neg hk, dif_neg (by simpa using hk)]; exact ⟨rfl, hl⟩
theorem LF (ρ : Int → Int) : ∀ fr : List LX.Frame, YtfclkapelkhlpaaGreatDoor.roots (fr.map (iQ ρ)) = (YtfclkapelkhlpaaGreatDoor.roots fr).map (nX ρ)
  | [] => rfl
  | f :: fr => by
    have := LF ρ fr
    unfold YtfclkapelkhlpaaGreatDoor.roots at *
    rw [List.map_cons, List.flatMap_cons, List.flatMap_cons, List.map_append, this]; rfl
theorem Hz.reach (h : Hz ρ R s t) : dh t = (dh s).map ρ ∧ ∀ x ∈ dh s, x ∈ R := by
  unfold dh Co
  rw [h.frames, LF]
  obtain ⟨h1, h2⟩ := JX h.inj (l := []) (fun x hx => by cases hx) h.roots
  rw [List.map_nil] at h1
  rw [h1]
  exact h.Kv 25 0 _ h2
theorem R9 (h : Hz ρ R s t) {v : Val} (hv : v.kind = 2 → v.n ∈ R) : ren (dh t) (nX ρ v) = ren (dh s) v := by
  unfold ren
  rw [sZ]
  by_cases hk : v.kind = 2
  · rw [if_pos hk, if_pos hk, E9 ρ hk, h.reach.1, Dq h.inj h.reach.2 (hv hk)]
  · rw [if_neg hk, if_neg hk, yL ρ hk]
theorem qG {α β : Type} {f g : α → β} : ∀ {l : List α}, (∀ x ∈ l, f x = g x) → l.map f = l.map g := fun h => List.map_congr_left h
theorem Hz.Sa (h : Hz ρ R s t) : df t = df s := by
  have hfr : t.frames.map (za (dh t)) = s.frames.map (za (dh s)) := by
    rw [h.frames, List.map_map]
    refine qG (fun f hf => ?_)
    have : (f.regs.map (nX ρ)).map (ren (dh t)) = f.regs.map (ren (dh s)) := by
      rw [List.map_map]
      exact qG (fun v hv => R9 h (yg h.roots f hf v hv))
    show za (dh t) (iQ ρ f) = za (dh s) f
    unfold za iQ
    simp only [this]
  have hcs : (dh t).map (fun k => (cellAt t.cells k).map (ren (dh t))) = (dh s).map (fun k => (cellAt s.cells k).map (ren (dh s))) := by
    conv => lhs; rw [h.reach.1]
    rw [List.map_map]
    refine qG (fun k hk => ?_)
    have hc := h.cells k (h.reach.2 k hk)
    show (cellAt t.cells (ρ k)).map (ren _) = _
    rw [hc.1, List.map_map, ← h.reach.1]
    exact qG (fun v hv => R9 h (hc.2 v hv))
  unfold df
  rw [hfr, hcs, h.status, h.aK]
end
theorem Bc {cells : List (List Val)} {i : Nat} (h : i < cells.length) : cellAt cells (i : Int) = cells[i] := by unfold cellAt; rw [xE h]; rfl
theorem Uu {s : LX.State} (h : Cr s) : Hz (fun x => ((dh s).idxOf x : Nat)) (dh s) s (df s) where
  frames := rfl
  status := rfl
  aK := rfl
  roots := h.reach.2.1
  range := h.reach.1.2
  range' x hx := by
    have := List.idxOf_lt_length_of_mem hx
    simp only [df, List.length_map]; omega
  inj x hx y hy e := by
    have e' : (dh s).idxOf x = (dh s).idxOf y := by omega
    have h1 := List.getElem_idxOf (List.idxOf_lt_length_of_mem hx)
    have h2 := List.getElem_idxOf (List.idxOf_lt_length_of_mem hy)
    rw [← h1, ← h2]; simp only [e']
  cells x hx := by
    have hlt := List.idxOf_lt_length_of_mem hx
    refine ⟨?_, h.reach.2.2 x hx⟩
    rw [Bc (by simpa [df] using hlt)]
    simp only [df, List.getElem_map]
    rw [List.getElem_idxOf hlt]; rfl
theorem JY {s : LX.State} (h : Cr s) : df (df s) = df s := (Uu h).Sa
end Go.Proofs.YtfclkapelkhlpaaGreatDoor
namespace Go.Proofs.YtfclkapelkhlpaaGreatDoor
open Go Go.Proofs Go.LX
theorem map_eq_map {α β : Type} {f g : α → β} {k : α → α} : ∀ {l m : List α}, l.map f = m.map g → (∀ x ∈ l, ∀ y ∈ m, f x = g y → y = k x) → m = l.map k
  | [], [], _, _ => rfl
  | [], y :: m, h, _ => by simp at h
  | x :: l, [], h, _ => by simp at h
  | x :: l, y :: m, h, hk => by
    rw [List.map_cons, List.map_cons, List.cons.injEq] at h
    rw [List.map_cons, hk x (by simp) y (by simp) h.1, map_eq_map h.2 (fun a ha b hb => hk a (List.mem_cons_of_mem _ ha) b (List.mem_cons_of_mem _ hb))]
theorem XA {l m : List Int} (hlen : l.length = m.length) {v w : Val} (hv : v.kind = 2 → v.n ∈ l) (hw : w.kind = 2 → w.n ∈ m) (h : ren l v = ren m w) : w = nX (fun x => m[l.idxOf x]?.getD 0) v := by
  obtain ⟨k, n⟩ := v
  obtain ⟨k', n'⟩ := w
  unfold ren at h
  by_cases h1 : k = 2
  · subst h1
    by_cases h2 : k' = 2
    · subst h2
      simp only [if_true, Val.mk.injEq, true_and] at h
      have hi : l.idxOf n = m.idxOf n' := by omega
      have hm := List.idxOf_lt_length_of_mem (hw rfl)
      unfold nX
      simp only [if_true]
      rw [hi, List.getElem?_eq_getElem hm, Option.getD_some, List.getElem_idxOf hm]
    · simp only [if_true, if_neg h2, Val.mk.injEq] at h
      exact absurd h.1.symm h2
  · by_cases h2 : k' = 2
    · subst h2
      simp only [if_true, if_neg h1, Val.mk.injEq] at h
      exact absurd h.1 h1
    · simp only [if_neg h1, if_neg h2] at h
      unfold nX
      simp only [if_neg h1]
      exact h.symm
theorem Uv {l : List Int} (h : l.Nodup) {i j : Nat} (hi : i < l.length) (hj : j < l.length) (e : l[i] = l[j]) : i = j := by
  rcases Nat.lt_trichotomy i j with hlt | rfl | hlt
  · exact absurd e (List.pairwise_iff_getElem.1 h i j hi hj hlt)
  · rfl
  · exact absurd e.symm (List.pairwise_iff_getElem.1 h j i hj hi hlt)
theorem Fa {s t : LX.State} (hs : Cr s) (ht : Cr t) (h : df s = df t) : Hz (fun x => (dh t)[(dh s).idxOf x]?.getD 0) (dh s) s t := by
  have hlen : (dh s).length = (dh t).length := by
    have := congrArg (fun u : LX.State => u.cells.length) h
    simpa [df] using this
  have hf : s.frames.map (za (dh s)) = t.frames.map (za (dh t)) := congrArg (fun u : LX.State => u.frames) h
  have hc : (dh s).map (fun k => (cellAt s.cells k).map (ren (dh s))) = (dh t).map (fun k => (cellAt t.cells k).map (ren (dh t))) := congrArg (fun u : LX.State => u.cells) h
  have at_ : ∀ x ∈ dh s, ∃ i, ∃ (h1 : i < (dh s).length) (h2 : i < (dh t).length), (dh s).idxOf x = i ∧ (dh s)[i] = x ∧ (dh t)[(dh s).idxOf x]?.getD 0 = (dh t)[i] := by
    intro x hx
    have h1 := List.idxOf_lt_length_of_mem hx
    refine ⟨_, h1, by omega, rfl, List.getElem_idxOf h1, ?_⟩
    rw [List.getElem?_eq_getElem (by omega), Option.getD_some]
  refine ⟨?_, ?_, ?_, hs.reach.2.1, hs.reach.1.2, ?_, ?_, ?_⟩
  · refine map_eq_map hf (fun f hf1 g hg1 e => ?_)
    have e1 : f.regs.map (ren (dh s)) = g.regs.map (ren (dh t)) := congrArg (fun u : LX.Frame => u.regs) e
    have e2 := map_eq_map (k := nX (fun x => (dh t)[(dh s).idxOf x]?.getD 0)) e1 (fun v hv w hw e => XA hlen (yg hs.reach.2.1 f hf1 v hv) (yg ht.reach.2.1 g hg1 w hw) e)
    obtain ⟨p, a, r, o⟩ := f
    obtain ⟨p', a', r', o'⟩ := g
    simp only [za, LX.Frame.mk.injEq] at e
    simp only at e2
    unfold iQ
    simp only [LX.Frame.mk.injEq]
    exact ⟨e.1.symm, e.2.1.symm, e2, e.2.2.2.symm⟩
  · exact (congrArg (fun u : LX.State => u.status) h).symm
  · exact (congrArg (fun u : LX.State => u.aK) h).symm
  · intro x hx
    obtain ⟨i, h1, h2, h3, h4, h5⟩ := at_ x hx
    rw [h5]
    exact ht.reach.1.2 _ (List.getElem_mem _)
  · intro x hx y hy e
    obtain ⟨i, h1, h2, h3, h4, h5⟩ := at_ x hx
    obtain ⟨j, g1, g2, g3, g4, g5⟩ := at_ y hy
    rw [h5, g5] at e
    have : i = j := Uv ht.reach.1.1 h2 g2 e
    subst this
    rw [← h4, ← g4]
  · intro x hx
    obtain ⟨i, h1, h2, h3, h4, h5⟩ := at_ x hx
    refine ⟨?_, hs.reach.2.2 x hx⟩
    rw [h5]
    have hci : (cellAt s.cells (dh s)[i]).map (ren (dh s)) = (cellAt t.cells (dh t)[i]).map (ren (dh t)) := by
      have := congrArg (fun u : List (List Val) => u[i]?) hc
      simp only [List.getElem?_map, List.getElem?_eq_getElem h1, List.getElem?_eq_getElem h2, Option.map_some, Option.some.injEq] at this
      exact this
    rw [h4] at hci
    exact map_eq_map hci (fun v hv w hw e => XA hlen (hs.reach.2.2 x hx v hv) (ht.reach.2.2 _ (List.getElem_mem _) w hw) e)
end Go.Proofs.YtfclkapelkhlpaaGreatDoor
namespace Go.Proofs.YtfclkapelkhlpaaGreatDoor
open Go Go.Proofs Go.LX
section
variable {a : List bN} {ρ : Int → Int} {R : List Int} {s t : LX.State}
theorem Hz.mk' (h : Hz ρ R s t) {fr : List LX.Frame} (hr : fU (YtfclkapelkhlpaaGreatDoor.roots fr) R) (st wh : Int) : Hz ρ R ⟨fr, s.cells, st, wh⟩ ⟨fr.map (iQ ρ), t.cells, st, wh⟩ :=
  ⟨rfl, rfl, rfl, hr, h.range, h.range', h.inj, h.cells⟩
theorem JZ {cells : List (List Val)} {k j : Int} {c : List Val} (hk : 0 ≤ k ∧ k < cells.length) (hj : 0 ≤ j ∧ j < cells.length) : cellAt (cells.set k.toNat c) j = if j = k then c else cellAt cells j := by
  obtain ⟨n, rfl⟩ := Int.eq_ofNat_of_zero_le hk.1
  obtain ⟨m, rfl⟩ := Int.eq_ofNat_of_zero_le hj.1
  unfold cellAt
  rw [Int.toNat_natCast, mR, mR, List.getElem?_set]
  by_cases e : n = m
  · subst e; rw [if_pos rfl, if_pos (by omega), if_pos rfl]; rfl
  · rw [if_neg e, if_neg (by omega)]
theorem Fb {vs : List Val} {i : Nat} {v : Val} (h : fU vs R) (hv : v.kind = 2 → v.n ∈ R) : fU (vs.set i v) R := fun w hw hk => by
  rcases List.mem_or_eq_of_mem_set hw with hw | rfl
  · exact h w hw hk
  · exact hv hk
theorem Hz.put (h : Hz ρ R s t) {fr : List LX.Frame} (hr : fU (YtfclkapelkhlpaaGreatDoor.roots fr) R) {k : Int} (hk : k ∈ R) {i : Nat} {v : Val} (hv : v.kind = 2 → v.n ∈ R) (st wh : Int) :
    Hz ρ R ⟨fr, s.cells.set k.toNat ((cellAt s.cells k).set i v), st, wh⟩ ⟨fr.map (iQ ρ), t.cells.set (ρ k).toNat ((cellAt t.cells (ρ k)).set i (nX ρ v)), st, wh⟩ := by
  refine ⟨rfl, rfl, rfl, hr, fun x hx => by simpa using h.range x hx, fun x hx => by simpa using h.range' x hx, h.inj, fun x hx => ?_⟩
  simp only
  rw [JZ (h.range' k hk) (h.range' x hx), JZ (h.range k hk) (h.range x hx)]
  have hc := h.cells x hx
  by_cases e : x = k
  · subst e
    rw [if_pos rfl, if_pos rfl, hc.1, List.map_set]
    exact ⟨rfl, Fb hc.2 hv⟩
  · rw [if_neg e, if_neg (fun q => e (h.inj x hx k hk q))]
    exact hc
theorem Pb {ρ' : Int → Int} {f : LX.Frame} (hf : fU f.regs R) (he : ∀ x ∈ R, ρ' x = ρ x) : iQ ρ' f = iQ ρ f := by
  unfold iQ
  have : f.regs.map (nX ρ') = f.regs.map (nX ρ) := qG (fun v hv => by
    unfold nX
    by_cases hk : v.kind = 2
    · rw [if_pos hk, if_pos hk, he _ (hf v hv hk)]
    · rw [if_neg hk, if_neg hk])
  rw [this]
theorem J2 {ρ' : Int → Int} {vs : List Val} (hf : fU vs R) (he : ∀ x ∈ R, ρ' x = ρ x) : vs.map (nX ρ') = vs.map (nX ρ) := qG (fun v hv => by
    unfold nX
    by_cases hk : v.kind = 2
    · rw [if_pos hk, if_pos hk, he _ (hf v hv hk)]
    · rw [if_neg hk, if_neg hk])
theorem J3 {cells : List (List Val)} {z : List Val} {k : Int} (hk : 0 ≤ k ∧ k < cells.length) : cellAt (cells ++ [z]) k = cellAt cells k := by
  obtain ⟨n, rfl⟩ := Int.eq_ofNat_of_zero_le hk.1
  rw [Bc (by simp; omega), Bc (by omega), List.getElem_append_left (by omega)]
theorem GR {cells : List (List Val)} {z : List Val} : cellAt (cells ++ [z]) (cells.length : Int) = z := by
  rw [Bc (by simp)]; simp
theorem tq (p : List LX.Frame) (f : LX.Frame) : roots (p ++ [f]) = roots p ++ f.regs := by unfold roots; simp
theorem fU.app {u v : List Val} : fU (u ++ v) R ↔ fU u R ∧ fU v R := ⟨fun h => ⟨fun w hw => h w (List.mem_append_left _ hw), fun w hw => h w (List.mem_append_right _ hw)⟩, fun h w hw => (List.mem_append.1 hw).elim (h.1 w) (h.2 w)⟩
theorem Hz.new {p : List LX.Frame} {f : LX.Frame} {cells cs : List (List Val)} {st wh : Int} {q : List LX.Frame} {f' : LX.Frame} (h : Hz ρ R ⟨p ++ [f], cells, st, wh⟩ ⟨q ++ [f'], cs, st, wh⟩) (i : Nat) (z : Nat) :
    df ⟨q ++ [{ f' with regs := f'.regs.set i ⟨2, cs.length⟩ }], cs ++ [List.replicate z ⟨0, 0⟩], st, wh⟩ = df ⟨p ++ [{ f with regs := f.regs.set i ⟨2, cells.length⟩ }], cells ++ [List.replicate z ⟨0, 0⟩], st, wh⟩ := by
  have hfr := h.frames
  simp only [List.map_append, List.map_cons, List.map_nil] at hfr
  obtain ⟨hq, hf⟩ := List.append_inj' hfr rfl
  simp only [List.cons.injEq, and_true] at hf
  subst hq hf
  have pW := h.roots
  simp only [tq, fU.app] at pW
  have hrg := h.range
  have XB := h.range'
  simp only at hrg XB
  have hnot : ∀ x ∈ R, x ≠ cells.length := fun x hx => by have := hrg x hx; omega
  let ρ' : Int → Int := fun x => if x = cells.length then cs.length else ρ x
  have he : ∀ x ∈ R, ρ' x = ρ x := fun x hx => if_neg (hnot x hx)
  have hl : ρ' cells.length = cs.length := if_pos rfl
  have I : Hz ρ' ((cells.length : Int) :: R) ⟨p ++ [{ f with regs := f.regs.set i ⟨2, cells.length⟩ }], cells ++ [List.replicate z ⟨0, 0⟩], st, wh⟩ ⟨p.map (iQ ρ) ++ [{ iQ ρ f with regs := (iQ ρ f).regs.set i ⟨2, cs.length⟩ }], cs ++ [List.replicate z ⟨0, 0⟩], st, wh⟩ := by
    refine ⟨?_, rfl, rfl, ?_, ?_, ?_, ?_, ?_⟩
    · simp only [List.map_append, List.map_cons, List.map_nil]
      congr 1
      · exact qG (fun g hg => (Pb (yg pW.1 g hg) he).symm)
      · unfold iQ
        simp only [List.map_set]
        rw [J2 pW.2 he]
        congr 2
        simp only [nX, if_true, hl]
    · simp only [tq, fU.app]
      refine ⟨fun w hw hk => List.mem_cons_of_mem _ (pW.1 w hw hk), Fb (fun w hw hk => List.mem_cons_of_mem _ (pW.2 w hw hk)) (fun _ => by simp)⟩
    · intro x hx
      simp only [List.length_append, List.length_cons, List.length_nil]
      rcases List.mem_cons.1 hx with rfl | hx
      · omega
      · have := hrg x hx; omega
    · intro x hx
      simp only [List.length_append, List.length_cons, List.length_nil]
      rcases List.mem_cons.1 hx with rfl | hx
      · rw [hl]; omega
      · rw [he x hx]; have := XB x hx; omega
    · intro x hx y hy e
      rcases List.mem_cons.1 hx with rfl | hx <;> rcases List.mem_cons.1 hy with rfl | hy
      · rfl
      · rw [hl, he y hy] at e; have := XB y hy; omega
      · rw [hl, he x hx] at e; have := XB x hx; omega
      · rw [he x hx, he y hy] at e; exact h.inj x hx y hy e
    · intro x hx
      simp only
      rcases List.mem_cons.1 hx with rfl | hx
      · rw [hl, GR, GR]
        refine ⟨by simp [nX], fun w hw hk => ?_⟩
        have := List.eq_of_mem_replicate hw
        subst this; simp at hk
      · rw [he x hx, J3 (hrg x hx), J3 (XB x hx)]
        have hc := h.cells x hx
        rw [J2 hc.2 he]
        exact ⟨hc.1, fun w hw hk => List.mem_cons_of_mem _ (hc.2 w hw hk)⟩
  exact I.Sa
end
def Sim (x y : Option (LX.State × Option Int × Bool)) : Prop := match x, y with
  | none, none => True
  | some (s, o, p), some (t, o', p') => o = o' ∧ p = p' ∧ df s = df t
  | _, _ => False
section
variable {a : List bN} {ρ : Int → Int} {R : List Int} {pre : List LX.Frame} {f : LX.Frame} {cells cs : List (List Val)} {x : bN} {c : Ins}
theorem LG {r : List Val} {n : Int} (hr : (r.length : Int) = n) {i : Int} (h : wU n i) : gJ (r.map (nX ρ)) i = nX ρ (gJ r i) := by
  obtain ⟨k, rfl⟩ := Int.eq_ofNat_of_zero_le h.1
  have := h.2
  unfold gJ
  rw [mR, mR, List.getElem?_map, List.getElem?_eq_getElem (by omega)]
  rfl
theorem YW {k : Int} {b d : Val} (hi : ∀ x ∈ R, ∀ y ∈ R, ρ x = ρ y → x = y) (hb : b.kind = 2 → b.n ∈ R) (hd : d.kind = 2 → d.n ∈ R) : R5 k (nX ρ b) (nX ρ d) = R5 k b d ∧ ∀ v, R5 k b d = some v → v.kind = 1 := by
  obtain ⟨k1, n1⟩ := b
  obtain ⟨k2, n2⟩ := d
  have key : ∀ v, R5 k ⟨k1, n1⟩ ⟨k2, n2⟩ = some v → v.kind = 1 := by
    intro v h
    unfold R5 at h
    split at h
    · cases h; rfl
    split at h
    · cases h
    split at h
    · cases h; rfl
    simp only at h
    generalize (if k = 1 then n1 + n2 else if k = 2 then n1 - n2 else n1 * n2) = z at h
    split at h
    · cases h; rfl
    · cases h
  refine ⟨?_, key⟩
  unfold R5
  by_cases h5 : k = 5
  · rw [if_pos h5, if_pos h5]
    have : (nX ρ ⟨k1, n1⟩ = nX ρ ⟨k2, n2⟩) ↔ ((⟨k1, n1⟩ : Val) = ⟨k2, n2⟩) := by
      unfold nX
      simp only
      by_cases e1 : k1 = 2
      · by_cases e2 : k2 = 2
        · rw [if_pos e1, if_pos e2]
          simp only [Val.mk.injEq]
          constructor
          · rintro ⟨q1, q2⟩; exact ⟨q1, hi _ (hb e1) _ (hd e2) q2⟩
          · rintro ⟨q1, q2⟩; exact ⟨q1, by rw [q2]⟩
        · rw [if_pos e1, if_neg e2]
          simp only [Val.mk.injEq]
          constructor <;> (rintro ⟨q1, q2⟩; omega)
      · by_cases e2 : k2 = 2
        · rw [if_neg e1, if_pos e2]
          simp only [Val.mk.injEq]
          constructor <;> (rintro ⟨q1, q2⟩; omega)
        · rw [if_neg e1, if_neg e2]
    by_cases e : (⟨k1, n1⟩ : Val) = ⟨k2, n2⟩
    · rw [if_pos e, if_pos (this.2 e)]
    · rw [if_neg e, if_neg (fun q => e (this.1 q))]
  · rw [if_neg h5, if_neg h5, sZ, sZ]
    by_cases h1 : k1 ≠ 1 ∨ k2 ≠ 1
    · rw [if_pos h1, if_pos h1]
    · rw [if_neg h1, if_neg h1]
      have e1 : nX ρ ⟨k1, n1⟩ = ⟨k1, n1⟩ := yL ρ (by simp only; omega)
      have e2 : nX ρ ⟨k2, n2⟩ = ⟨k2, n2⟩ := yL ρ (by simp only; omega)
      rw [e1, e2]
theorem Sb (i : Nat) (v : Val) (g : LX.Frame) : ({ iQ ρ g with regs := (iQ ρ g).regs.set i (nX ρ v) } : LX.Frame) = iQ ρ { g with regs := g.regs.set i v } := by unfold iQ; simp only [List.map_set]
end
end Go.Proofs.YtfclkapelkhlpaaGreatDoor
namespace Go.Proofs.YtfclkapelkhlpaaGreatDoor
open Go Go.Proofs Go.LX
section
variable {a : List bN} {ρ : Int → Int} {R : List Int} {pre : List LX.Frame} {f : LX.Frame} {cells cs : List (List Val)} {x : bN} {c : Ins}
theorem sD {p : LX.State} {q : LX.State} {o : Option Int} {b : Bool} (h : Hz ρ R p q) : Sim (some (p, o, b)) (some (q, o, b)) := ⟨rfl, rfl, h.Sa.symm⟩
theorem Pf (p : List LX.Frame) (g : LX.Frame) (ds : List (List Val)) (st wh : Int) : Kw ⟨p ++ [g], ds, st, wh⟩ c = if ds.length = 24 then none else some ⟨p ++ [{ g with regs := g.regs.set c.a.toNat ⟨2, ds.length⟩ }], ds ++ [List.replicate c.b.toNat ⟨0, 0⟩], st, wh⟩ := by
  unfold Kw
  simp only [List.dropLast_concat, List.getLast?_append, List.getLast?_singleton, Option.some_or, Option.map_some, Option.toList_some]
theorem XC (ha : mg a) (h : nW a pre f cells x c) (h2 : nW a (pre.map (iQ ρ)) (iQ ρ f) cs x c) (hI : Hz ρ R ⟨pre ++ [f], cells, 0, 0⟩ ⟨(pre ++ [f]).map (iQ ρ), cs, 0, 0⟩) :
    Sim (lW a pre f cells 0 0 x c) (lW a (pre.map (iQ ρ)) (iQ ρ f) cs 0 0 x c) := by
  have pW := hI.roots
  simp only [tq, fU.app] at pW
  have J4 : ∀ {i : Int}, wU x.regs i → gJ (iQ ρ f).regs i = nX ρ (gJ f.regs i) := fun hi => LG h.fr.regs hi
  have Pg : ∀ {i : Int}, wU x.regs i → (gJ f.regs i).kind = 2 → (gJ f.regs i).n ∈ R := fun hi hk => pW.2 _ (yh h.fr.regs hi).2 hk
  -- a frame on top
  have top : ∀ (g : LX.Frame) (st wh : Int), fU g.regs R → Hz ρ R ⟨pre ++ [g], cells, st, wh⟩ ⟨pre.map (iQ ρ) ++ [iQ ρ g], cs, st, wh⟩ := by
    intro g st wh hg
    have := hI.mk' (fr := pre ++ [g]) (by simp only [tq, fU.app]; exact ⟨pW.1, hg⟩) st wh
    simpa using this
  have hput : ∀ (i : Nat) (v : Val), (v.kind = 2 → v.n ∈ R) → Hz ρ R ⟨pre ++ [{ zf f x with regs := f.regs.set i v }], cells, 0, 0⟩ ⟨pre.map (iQ ρ) ++ [{ zf (iQ ρ f) x with regs := (iQ ρ f).regs.set i (nX ρ v) }], cs, 0, 0⟩ := by
    intro i v hv
    have := top { zf f x with regs := f.regs.set i v } 0 0 (Fb pW.2 hv)
    have e : ({ zf (iQ ρ f) x with regs := (iQ ρ f).regs.set i (nX ρ v) } : LX.Frame) = iQ ρ { zf f x with regs := f.regs.set i v } := Sb i v (zf f x)
    rw [e]; exact this
  have Ad : Hz ρ R ⟨pre ++ [zf f x], cells, 0, 0⟩ ⟨pre.map (iQ ρ) ++ [zf (iQ ρ f) x], cs, 0, 0⟩ := top (zf f x) 0 0 pW.2
  have O7 : Hz ρ R ⟨pre ++ [{ zf f x with at_ := c.b }], cells, 0, 0⟩ ⟨pre.map (iQ ρ) ++ [{ zf (iQ ρ f) x with at_ := c.b }], cs, 0, 0⟩ := top { zf f x with at_ := c.b } 0 0 pW.2
  unfold lW
  rcases h.good with g | g | g | g | g | g | g | g | g | g
  · obtain ⟨hop, hr, hb⟩ := g
    simp only [hop, Int.reduceEq, if_true, if_false]
    exact sD (by have := hput c.a.toNat ⟨1, c.b⟩ (by simp); simpa [nX] using this)
  · obtain ⟨hop, hr, hb⟩ := g
    simp only [hop, Int.reduceEq, if_true, if_false]
    rw [J4 hb]
    exact sD (hput _ _ (Pg hb))
  · obtain ⟨hop, hr, hb, hc, n, hn, hn1⟩ := g
    simp only [hop, hn, Int.reduceEq, if_true, if_false, List.headD_cons]
    rw [J4 hb, J4 hc]
    obtain ⟨e1, e2⟩ := YW (k := n) hI.inj (Pg hb) (Pg hc)
    rw [e1]
    cases e : R5 n (gJ f.regs c.b) (gJ f.regs c.c) with
    | none => trivial
    | some v =>
      have hk := e2 v e
      have := hput c.a.toNat v (by omega)
      rw [yL ρ (by omega)] at this
      exact sD this
  · obtain ⟨hop, hr, hb, hc⟩ := g
    rcases hop with hop | hop
    · simp only [hop, Int.reduceEq, if_true, if_false]
      rw [J4 hb, sZ]
      by_cases hk : (gJ f.regs c.b).kind = 2
      · have hin := Pg hb hk
        have hcl := hI.cells _ hin
        simp only at hcl
        rw [E9 ρ hk]
        simp only [hk]
        rw [hcl.1, List.length_map]
        by_cases hl : ((cellAt cells (gJ f.regs c.b).n).length : Int) ≤ c.c
        · rw [if_pos (.inr hl), if_pos (.inr hl)]; trivial
        · rw [if_neg (by simp; omega), if_neg (by simp; omega)]
          have hri : wU ((cellAt cells (gJ f.regs c.b).n).length : Int) c.c := ⟨hc.1, by omega⟩
          rw [LG rfl hri]
          exact sD (hput _ _ (hcl.2 _ (yh rfl hri).2))
      · rw [if_pos (.inl hk), if_pos (.inl hk)]; trivial
    · simp only [hop, Int.reduceEq, if_true, if_false]
      rw [J4 hr, J4 hb, sZ]
      by_cases hk : (gJ f.regs c.a).kind = 2
      · have hin := Pg hr hk
        have hcl := hI.cells _ hin
        simp only at hcl
        rw [E9 ρ hk]
        simp only [hk]
        have hlen : (cellAt cs (ρ (gJ f.regs c.a).n)).length = (cellAt cells (gJ f.regs c.a).n).length := by rw [hcl.1, List.length_map]
        rw [hlen]
        by_cases hl : ((cellAt cells (gJ f.regs c.a).n).length : Int) ≤ c.c
        · rw [if_pos (.inr hl), if_pos (.inr hl)]; trivial
        · rw [if_neg (by simp; omega), if_neg (by simp; omega)]
          have := hI.put (fr := pre ++ [zf f x]) (by simp only [tq, fU.app]; exact pW) hin (i := c.c.toNat) (Pg hb) 0 0
          simp only [List.map_append, List.map_cons, List.map_nil] at this
          exact sD this
      · rw [if_pos (.inl hk), if_pos (.inl hk)]; trivial
  · obtain ⟨hop, hr, hb⟩ := g
    simp only [hop, Int.reduceEq, if_true, if_false]
    have sw1 := nW.sw ha h (st := 0) (wh := 0) h.zf
    have sw2 := nW.sw ha h2 (st := 0) (wh := 0) h2.zf
    have hE := Ad.Sa
    have hlen : (dh ⟨pre.map (iQ ρ) ++ [zf (iQ ρ f) x], cs, 0, 0⟩).length = (dh ⟨pre ++ [zf f x], cells, 0, 0⟩).length := by rw [Ad.reach.1, List.length_map]
    -- what is left of each
    have side : ∀ (p : List LX.Frame) (g : LX.Frame) (ds : List (List Val)), Cr ⟨p ++ [g], ds, 0, 0⟩ → ∃ p' g' ds', (if ds.length = 24 then df ⟨p ++ [g], ds, 0, 0⟩ else (⟨p ++ [g], ds, 0, 0⟩ : LX.State)) = ⟨p' ++ [g'], ds', 0, 0⟩ ∧ Cr ⟨p' ++ [g'], ds', 0, 0⟩ ∧ df ⟨p' ++ [g'], ds', 0, 0⟩ = df ⟨p ++ [g], ds, 0, 0⟩ ∧ (ds'.length = 24 ↔ (dh ⟨p ++ [g], ds, 0, 0⟩).length = 24) := by
      intro p g ds hsw
      have hrl := hsw.reach.1.len
      by_cases UE : ds.length = 24
      · rw [if_pos UE]
        refine ⟨_, _, _, Ab g, ?_, ?_, ?_⟩
        · rw [← Ab]
          refine ⟨⟨by simpa [df] using hsw.small.frames, ?_, (LB hsw).2, fun c hc => ((Ct hsw).2 c hc).1.2⟩, Ct hsw, ?_⟩
          · intro k hk
            simp only [df, List.mem_map] at hk
            obtain ⟨k0, hk0, rfl⟩ := hk
            simpa [za] using hsw.small.regs k0 hk0
          · intro k hk v hv
            simp only [df, List.mem_map] at hk
            obtain ⟨k0, hk0, rfl⟩ := hk
            simp only [za, List.mem_map] at hv
            obtain ⟨v0, hv0, rfl⟩ := hv
            have := Q3 (hsw.vals k0 hk0 v0 hv0) (yg hsw.reach.2.1 k0 hk0 v0 hv0)
            simpa [df] using this
        · rw [← Ab, JY hsw]
        · simp [df]
      · rw [if_neg UE]
        refine ⟨p, g, ds, rfl, hsw, rfl, ?_⟩
        simp only at hrl
        have := hsw.cells.1
        simp only at this
        omega
    obtain ⟨p1, g1, d1, e1, w1, s1, l1⟩ := side pre (zf f x) cells sw1
    obtain ⟨p2, g2, d2, e2, w2, s2, l2⟩ := side (pre.map (iQ ρ)) (zf (iQ ρ f) x) cs sw2
    rw [e1, e2, Pf, Pf]
    by_cases UE : d1.length = 24
    · rw [if_pos UE, if_pos (by rw [l2, hlen, ← l1]; exact UE)]; trivial
    · rw [if_neg UE, if_neg (by rw [l2, hlen, ← l1]; exact UE)]
      have J := Fa w1 w2 (by rw [s1, s2, hE])
      exact ⟨rfl, rfl, (J.new c.a.toNat c.b.toNat).symm⟩
  · obtain ⟨hop, hr, ⟨p1, hp, hl⟩, hargs⟩ := g
    simp only [hop, Int.reduceEq, if_true, if_false, List.length_map]
    by_cases h10 : pre.length + 1 = 10
    · rw [if_pos h10, if_pos h10]; trivial
    · rw [if_neg h10, if_neg h10]
      have hm : c.args.map (gJ (iQ ρ f).regs) = (c.args.map (gJ f.regs)).map (nX ρ) := by
        rw [List.map_map]
        exact qG (fun k hk => J4 (hargs k hk))
      have hz : ∀ n : Nat, (List.replicate n (⟨0, 0⟩ : Val)).map (nX ρ) = List.replicate n ⟨0, 0⟩ := by intro n; rw [List.map_replicate]; rfl
      have := hI.mk' (fr := pre ++ [zf f x] ++ [⟨c.b, 0, c.args.map (gJ f.regs) ++ List.replicate (((idx a c.b).map (·.regs)).getD 0 - c.args.length).toNat ⟨0, 0⟩, c.a⟩]) (by
        simp only [tq, fU.app]
        refine ⟨pW, fun v hv hk => ?_, fun v hv hk => ?_⟩
        · obtain ⟨k, hk1, rfl⟩ := List.mem_map.1 hv
          exact Pg (hargs k hk1) hk
        · have := List.eq_of_mem_replicate hv
          subst this; simp at hk) 0 0
      simp only [List.map_append, List.map_cons, List.map_nil] at this
      rw [hm]
      have e : iQ ρ ⟨c.b, 0, c.args.map (gJ f.regs) ++ List.replicate (((idx a c.b).map (·.regs)).getD 0 - c.args.length).toNat ⟨0, 0⟩, c.a⟩ = ⟨c.b, 0, (c.args.map (gJ f.regs)).map (nX ρ) ++ List.replicate (((idx a c.b).map (·.regs)).getD 0 - c.args.length).toNat ⟨0, 0⟩, c.a⟩ := by
        unfold iQ
        simp only [List.map_append, hz]
      rw [e] at this
      exact sD this
  · obtain ⟨hop, hr⟩ := g
    rcases hop with hop | hop | hop
    · simp only [hop, Int.reduceEq, if_true, if_false]
      rcases List.eq_nil_or_concat pre with hp | ⟨q, g, hp⟩
      · subst hp
        have := hI.mk' (fr := []) (fun v hv => by cases hv) 1 0
        exact sD this
      · rw [List.concat_eq_append] at hp
        subst hp
        simp only [List.map_append, List.map_cons, List.map_nil, List.getLast?_append, List.getLast?_singleton, Option.some_or, List.dropLast_concat]
        rw [J4 hr]
        simp only [tq, fU.app] at pW
        have := hI.mk' (fr := q ++ [{ g with regs := g.regs.set f.mH.toNat (gJ f.regs c.a) }]) (by
          simp only [tq, fU.app]
          exact ⟨pW.1.1, Fb pW.1.2 (Pg hr)⟩) 0 0
        simp only [List.map_append, List.map_cons, List.map_nil] at this
        rw [← Sb] at this
        exact sD this
    · simp only [hop, Int.reduceEq, if_true, if_false]
      rw [J4 hr, sZ]
      by_cases hk : (gJ f.regs c.a).kind = 1
      · rw [if_pos hk, if_pos hk, yL ρ (by omega)]
        exact sD Ad
      · rw [if_neg hk, if_neg hk]; trivial
    · simp only [hop, Int.reduceEq, if_true, if_false]
      rw [J4 hr, sZ]
      by_cases hk : (gJ f.regs c.a).kind = 1
      · rw [if_pos hk, if_pos hk, yL ρ (by omega)]
        exact sD (top (zf f x) 3 _ pW.2)
      · rw [if_neg hk, if_neg hk]; trivial
  · simp only [g, Int.reduceEq, if_true, if_false]
    exact sD Ad
  · obtain ⟨hop, hb⟩ := g
    simp only [hop, Int.reduceEq, if_true, if_false]
    exact sD O7
  · obtain ⟨hop, hr, hb⟩ := g
    simp only [hop, Int.reduceEq, if_true, if_false]
    rw [J4 hr, sZ]
    by_cases hk : (gJ f.regs c.a).kind = 2
    · rw [if_neg (by simp [hk]), if_neg (by simp [hk])]
      exact sD Ad
    · rw [yL ρ hk]
      by_cases hz : (gJ f.regs c.a).n = 0
      · rw [if_pos ⟨hk, hz⟩, if_pos ⟨hk, hz⟩]; exact sD O7
      · rw [if_neg (fun e => hz e.2), if_neg (fun e => hz e.2)]; exact sD Ad
end
end Go.Proofs.YtfclkapelkhlpaaGreatDoor
namespace Go.Proofs.YtfclkapelkhlpaaGreatDoor
open Go Go.Proofs Go.LX
theorem Q5 {s t : LX.State} (h : df s = df t) (k : Int) : df { s with status := k } = df { t with status := k } := congrArg (fun u : LX.State => { u with status := k }) h
theorem Uw {a : List bN} (ha : mg a) {s t : LX.State} (hs : pF a s) (ht : pF a t) (h0 : s.status = 0) (hE : df s = df t) : Sim (uG a s) (uG a t) ∧ Cu a s = Cu a t := by
  have I := Fa (hs.sw ha) (ht.sw ha) hE
  generalize (fun x => (dh t)[(dh s).idxOf x]?.getD 0) = ρ at I
  have ht0 : t.status = 0 := by rw [I.status]; exact h0
  obtain ⟨pre, f, x, c, e1, T1, st1, op1⟩ := Ae ha hs h0
  obtain ⟨pre', f', x', c', e2, T2, st2, op2⟩ := Ae ha ht ht0
  have hfr := I.frames
  have q1 : s.frames = pre ++ [f] := by rw [e1]
  have q2 : t.frames = pre' ++ [f'] := by rw [e2]
  rw [q1, q2] at hfr
  simp only [List.map_append, List.map_cons, List.map_nil] at hfr
  obtain ⟨hp, hf⟩ := List.append_inj' hfr rfl
  simp only [List.cons.injEq, and_true] at hf
  subst hp hf
  have hx : x' = x := by
    have h1 := T1.fr.proc
    have h2 : idx a f.proc = some x' := T2.fr.proc
    rw [h1] at h2; exact (fJ h2).symm
  subst hx
  have hc : c' = c := by
    have h1 := T1.ins
    have h2 : idx x'.code f.at_ = some c' := T2.ins
    rw [h1] at h2; exact (fJ h2).symm
  subst hc
  refine ⟨?_, by rw [op1, op2]⟩
  rw [st1, st2]
  refine XC ha T1 T2 (R := dh s) ?_
  exact I.mk' (fr := pre ++ [f]) (by have := I.roots; rw [q1] at this; exact this) 0 0
def iter (a : List bN) : Nat → LX.State → LX.State × List Int
  | 0, s => (s, [])
  | n + 1, s => if s.status ≠ 0 then (s, []) else match uG a s with
    | none => ({ s with status := 2 }, [])
    | some (t, o, _) => ((iter a n t).1, o.toList ++ (iter a n t).2)
theorem C9 {a : List bN} {s : LX.State} (h : s.status ≠ 0) : ∀ n, iter a n s = (s, [])
  | 0 => rfl
  | n + 1 => by unfold iter; rw [if_pos h]
theorem Cv {a : List bN} : ∀ (j k : Nat) (s : LX.State), iter a (j + k) s = ((iter a k (iter a j s).1).1, (iter a j s).2 ++ (iter a k (iter a j s).1).2)
  | 0, k, s => by rw [Nat.zero_add]; rfl
  | j + 1, k, s => by
    rw [show j + 1 + k = (j + k) + 1 by omega]
    by_cases h0 : s.status ≠ 0
    · rw [C9 h0, C9 h0, C9 h0]; rfl
    · cases e : uG a s with
      | none =>
        have e1 : ∀ q, iter a (q + 1) s = ({ s with status := 2 }, []) := fun q => by unfold iter; rw [if_neg h0, e]
        rw [e1, e1, C9 (by simp)]; rfl
      | some q =>
        obtain ⟨t, o, p⟩ := q
        have e1 : ∀ q, iter a (q + 1) s = ((iter a q t).1, o.toList ++ (iter a q t).2) := fun q => by
          conv => lhs; unfold iter
          rw [if_neg h0, e]
        rw [e1, e1, Cv j k t]
        simp only [List.append_assoc]
theorem J5 {a : List bN} : ∀ (m : Nat) (said : List Int) (n : Nat) (s : LX.State), ∃ k, k ≤ m ∧ Bw a m said n s = ((iter a k s).1, said ++ (iter a k s).2, n + k) ∧ (∀ j, j < k → (iter a j s).1.status = 0) ∧ (1 ≤ m → s.status = 0 → said = [] → 1 ≤ k)
  | 0, said, n, s => ⟨0, Nat.le_refl _, by simp [Bw, iter], fun j hj => absurd hj (Nat.not_lt_zero _), fun h => absurd h (by omega)⟩
  | m + 1, said, n, s => by
    unfold Bw
    by_cases h0 : s.status ≠ 0
    · rw [if_pos h0]
      exact ⟨0, by omega, by simp [iter], fun j hj => absurd hj (Nat.not_lt_zero _), fun _ h => absurd h h0⟩
    · rw [if_neg h0]
      by_cases h40 : said.length = 40 ∧ Cu a s = 9
      · rw [if_pos h40]
        exact ⟨0, by omega, by simp [iter], fun j hj => absurd hj (Nat.not_lt_zero _), fun _ _ h => by subst h; simp at h40⟩
      · rw [if_neg h40]
        have hs0 : s.status = 0 := Decidable.not_not.1 h0
        cases e : uG a s with
        | none =>
          refine ⟨1, by omega, ?_, fun j hj => ?_, fun _ _ _ => Nat.le_refl _⟩
          · unfold iter; rw [if_neg h0, e]; simp
          · obtain rfl : j = 0 := by omega
            exact hs0
        | some q =>
          obtain ⟨t, o, p⟩ := q
          have e1 : ∀ q, iter a (q + 1) s = ((iter a q t).1, o.toList ++ (iter a q t).2) := fun q => by
            conv => lhs; unfold iter
            rw [if_neg h0, e]
          simp only
          cases p with
          | true =>
            refine ⟨1, by omega, ?_, fun j hj => ?_, fun _ _ _ => Nat.le_refl _⟩
            · rw [e1]; simp [iter]
            · obtain rfl : j = 0 := by omega
              exact hs0
          | false =>
            obtain ⟨k, k1, k2, k3, -⟩ := J5 m (said ++ o.toList) (n + 1) t
            refine ⟨k + 1, by omega, ?_, fun j hj => ?_, fun _ _ _ => by omega⟩
            · simp only [Bool.false_eq_true, if_false]
              rw [k2, e1]
              simp only [List.append_assoc]
              congr 2
              omega
            · cases j with
              | zero => exact hs0
              | succ j => rw [e1]; exact k3 j (by omega)
theorem yj {a : List bN} (ha : mg a) : ∀ (n : Nat) (s : LX.State), pF a s → pF a (iter a n s).1
  | 0, s, h => h
  | n + 1, s, h => by
    unfold iter
    by_cases h0 : s.status ≠ 0
    · rw [if_pos h0]; exact h
    · rw [if_neg h0]
      have hs0 : s.status = 0 := Decidable.not_not.1 h0
      cases e : uG a s with
      | none => exact YV h hs0
      | some q =>
        obtain ⟨t, o, p⟩ := q
        exact yj ha n t (yK ha h hs0 e).1
theorem J6 {a : List bN} (ha : mg a) : ∀ (n : Nat) (s t : LX.State), pF a s → pF a t → df s = df t → (iter a n s).2 = (iter a n t).2 ∧ df (iter a n s).1 = df (iter a n t).1
  | 0, s, t, _, _, h => ⟨rfl, h⟩
  | n + 1, s, t, hs, ht, h => by
    have hst : s.status = t.status := by show (df s).status = (df t).status; rw [h]
    unfold iter
    by_cases h0 : s.status = 0
    · rw [if_neg (show ¬ s.status ≠ 0 by omega), if_neg (show ¬ t.status ≠ 0 by omega)]
      obtain ⟨h1, h2⟩ := Uw ha hs ht h0 h
      cases e1 : uG a s with
      | none =>
        rw [e1] at h1
        cases e2 : uG a t with
        | none => exact ⟨rfl, Q5 h 2⟩
        | some q => rw [e2] at h1; exact h1.elim
      | some q =>
        rw [e1] at h1
        cases e2 : uG a t with
        | none => rw [e2] at h1; exact h1.elim
        | some q2 =>
          rw [e2] at h1
          obtain ⟨u, o, p⟩ := q
          obtain ⟨u2, o2, p2⟩ := q2
          obtain ⟨rfl, rfl, h3⟩ := h1
          obtain ⟨i1, i2⟩ := J6 ha n u u2 (yK ha hs h0 e1).1 (yK ha ht (by omega) e2).1 h3
          exact ⟨by simp only [i1], i2⟩
    · rw [if_pos h0, if_pos (by omega)]; exact ⟨rfl, h⟩
end Go.Proofs.YtfclkapelkhlpaaGreatDoor
namespace Go.Proofs.YtfclkapelkhlpaaGreatDoor
open Go Go.Proofs Go.LX
theorem at_eq (k : Int) {n : Int} (hn : 0 < n) (hb : n ≤ 1000000000) : ∃ r, qE k n = some r ∧ 0 ≤ r ∧ r < n := by
  unfold qE
  rw [xG hn]
  have h1 : Int.tmod k n < n := Int.tmod_lt_of_pos k hn
  have h2 : -n < Int.tmod k n := by
    have := Int.tmod_lt_of_pos (-k) hn
    rw [Int.neg_tmod] at this
    omega
  by_cases h : Int.tmod k n < 0
  · rw [dT h, cond_true, gI (by omega) (by omega)]
    exact ⟨_, rfl, by omega, by omega⟩
  · rw [dF h, cond_false]
    exact ⟨_, rfl, by omega, h1⟩
theorem XD {a : List bN} (hc : RV a = 0) {T : Nat} {b : LX.State} {uf : List Int} {t : LX.State} (hb : pF a b) (ht : pF a t) (hT : T ≤ 2000) (hsaid : uf = (iter a T b).2) (hE : df t = df (iter a T b).1) (heff : ∀ j, j < T → (iter a j b).1.status = 0) (hlen : (iter a T b).2.length ≤ 5000) :
    ∀ (m M : Nat) (j : Nat) (s : LX.State) (said : List Int), T = j + m → m < M → s = (iter a j b).1 → said = (iter a j b).2 → again (fe NN a uf t.frames t.cells t.status t.aK) M ((m : Int), said, s.frames, s.cells, s.status, s.aK) = some true
  | m, 0, j, s, said, h1, h2, h3, h4 => by omega
  | 0, M + 1, j, s, said, h1, h2, h3, h4 => by
    have ha := ES hc
    rw [ET]
    unfold fe
    simp only
    rw [show (decide ((0 : Int) < ((0 : Nat) : Int)) && decide ((s.status : Int) = 0)) = false by simp, cond_false, dT (by simp), cond_true]
    obtain rfl : T = j := by omega
    subst h3 h4 hsaid
    rw [eqInt, bnd, dT rfl, cond_true]
    have hs : pF a (iter a T b).1 := yj ha T b hb
    have e1 := EZ (N := NN) (by decide) (hs.sw ha)
    have e2 := EZ (N := NN) (by decide) (ht.sw ha)
    rw [show (⟨(iter a T b).1.frames, (iter a T b).1.cells, (iter a T b).1.status, (iter a T b).1.aK⟩ : LX.State) = (iter a T b).1 from rfl, e1, bnd, show (⟨t.frames, t.cells, t.status, t.aK⟩ : LX.State) = t from rfl, e2, bnd, YT, bnd, dT hE.symm]
  | m + 1, M + 1, j, s, said, h1, h2, h3, h4 => by
    have ha := ES hc
    rw [ET]
    have ih : ∀ (m' : Nat) (j : Nat) (s : LX.State) (said : List Int), T = j + m' → m' < M → s = (iter a j b).1 → said = (iter a j b).2 → again (fe NN a uf t.frames t.cells t.status t.aK) M ((m' : Int), said, s.frames, s.cells, s.status, s.aK) = some true := fun m' => XD hc hb ht hT hsaid hE heff hlen m' M
    generalize again (fe NN a uf t.frames t.cells t.status t.aK) M = K at ih ⊢
    have hs0 : s.status = 0 := by rw [h3]; exact heff j (by omega)
    have hs : pF a s := by rw [h3]; exact yj ha j b hb
    unfold fe
    simp only
    rw [show (decide ((0 : Int) < ((m + 1 : Nat) : Int)) && decide ((s.status : Int) = 0)) = true by rw [dT hs0, dT (by omega)]; rfl, cond_true, show (⟨s.frames, s.cells, s.status, s.aK⟩ : LX.State) = s from rfl, LD a s _ Xy, if_neg (by omega), if_neg (by rw [JU.2 hs]; omega), if_neg (by omega), if_neg (by omega), bnd]
    obtain ⟨k, k1, k2, k3, k4⟩ := J5 (a := a) (min ((m + 1 : Nat) : Int) 2000).toNat [] 0 s
    have k5 := k4 (by omega) hs0 rfl
    rw [k2]
    simp only [Nat.zero_add, List.nil_append]
    rw [show (decide ((0 : Int) ≠ 0) || decide (((k : Nat) : Int) = 0)) = false by simp; omega, cond_false, gI (by omega) (by omega)]
    have hadd := Cv (a := a) j k b
    rw [← h3] at hadd
    have hsplit := Cv (a := a) (j + k) (m + 1 - k) b
    rw [show j + k + (m + 1 - k) = T by omega, hadd] at hsplit
    have hlen2 : (said ++ (iter a k s).2).length ≤ 5000 := by
      have := congrArg (fun q : LX.State × List Int => q.2.length) hsplit
      simp only [List.length_append] at this
      rw [h4, List.length_append]; omega
    rw [xG (room_le (by rw [List.length_append] at hlen2; omega) (by decide))]
    have := ih (m + 1 - k) (j + k) (iter a k s).1 (said ++ (iter a k s).2) (by omega) (by omega) (by rw [hadd]) (by rw [hadd, h4])
    rw [show ((m + 1 : Nat) : Int) - (k : Int) = ((m + 1 - k : Nat) : Int) by omega]
    exact this
end Go.Proofs.YtfclkapelkhlpaaGreatDoor
namespace Go.Proofs.YtfclkapelkhlpaaGreatDoor
open Go Go.Proofs Go.LX
theorem Fe {a : List bN} : ∀ (n : Nat) (s : LX.State), (iter a n s).2.length ≤ n
  | 0, s => Nat.le_refl _
  | n + 1, s => by
    unfold iter
    by_cases h0 : s.status ≠ 0
    · rw [if_pos h0]; simp
    · rw [if_neg h0]
      cases uG a s with
      | none => simp
      | some q =>
        obtain ⟨t, o, p⟩ := q
        have := Fe (a := a) n t
        have ho : o.toList.length ≤ 1 := by cases o <;> simp
        simp only [List.length_append]
        omega
theorem LH {a : List bN} (hc : RV a = 0) {b t : LX.State} {T : Nat} (hb : pF a b) (ht : pF a t) (hT : T ≤ 2000) (hE : df t = df (iter a T b).1) (heff : ∀ j, j < T → (iter a j b).1.status = 0) : jr NN a b (T : Int) (iter a T b).2 t.frames t.cells t.status t.aK = some true := by
  unfold jr
  exact XD hc hb ht hT rfl hE heff (by have := Fe (a := a) T b; omega) T NN 0 b [] (by omega) (by have : (2000 : Nat) < NN := (by decide); omega) rfl rfl
theorem J7 {a : List bN} (hc : RV a = 0) {b : LX.State} (hb : pF a b) : ∀ (l : List Int) (T : Nat) (t : LX.State), pF a t → t.status = 0 → T + 60 * l.length ≤ 2000 → df t = df (iter a T b).1 → (∀ j, j < T → (iter a j b).1.status = 0) →
    each (iI NN a b) (iJ NN a b) l ((T : Int), (iter a T b).2, t.frames, t.cells, t.status, t.aK) = some true
  | [], T, t, ht, h0, hT, hE, heff => by
    rw [gG]
    unfold iJ
    exact LH hc hb ht (by simpa using hT) hE heff
  | z :: l, T, t, ht, h0, hT, hE, heff => by
    have ha := ES hc
    rw [dI]
    have ih := J7 hc hb l
    generalize each (iI NN a b) (iJ NN a b) l = K at ih ⊢
    unfold iI
    simp only
    simp only [List.length_cons] at hT
    obtain ⟨r, r1, r2, r3⟩ := at_eq z (n := 60) (by omega) (by omega)
    rw [r1, bnd, show (⟨t.frames, t.cells, t.status, t.aK⟩ : LX.State) = t from rfl, LD a t _ Xy, if_neg (by omega), if_neg (by rw [JU.2 ht]; omega), if_neg (by omega), if_neg (by omega), bnd]
    obtain ⟨k, k1, k2, k3, k4⟩ := J5 (a := a) r.toNat [] 0 t
    rw [k2]
    simp only [Nat.zero_add, List.nil_append]
    rw [show (decide ((0 : Int) ≠ 0) || decide ((r : Int) < (k : Nat))) = false by rw [Bool.or_eq_false_iff]; simp only [decide_eq_false_iff_not]; omega, cond_false]
    have hx := yj ha k t ht
    have e1 := EZ (N := NN) (by decide) (hx.sw ha)
    have hbT := yj ha T b hb
    obtain ⟨i1, i2⟩ := J6 ha k t _ ht hbT hE
    have hadd := Cv (a := a) T k b
    have hl1 := Fe (a := a) T b
    have hl2 := Fe (a := a) k t
    have hsw := O5 ha hx
    rw [e1, bnd, xG (room_le (by omega) (by decide)), gI (by omega) (by omega), Cn, if_neg (by omega), JU.2 hsw, bnd, dF (by simp), cond_false]
    have hE2 : df (df (iter a k t).1) = df (iter a (T + k) b).1 := by rw [JY (hx.sw ha), i2, hadd]
    have hsaid : (iter a T b).2 ++ (iter a k t).2 = (iter a (T + k) b).2 := by rw [i1, hadd]
    have ZM : ∀ j, j < T + k → (iter a j b).1.status = 0 := by
      intro j hj
      by_cases hjT : j < T
      · exact heff j hjT
      · have h1 := k3 (j - T) (by omega)
        obtain ⟨-, q2⟩ := J6 ha (j - T) t _ ht hbT hE
        have h2 : (iter a (j - T) t).1.status = (iter a (j - T) (iter a T b).1).1.status := by
          show (df (iter a (j - T) t).1).status = (df _).status
          rw [q2]
        have h3 := Cv (a := a) T (j - T) b
        rw [show T + (j - T) = j by omega] at h3
        rw [h3]
        simp only
        rw [← h2]; exact h1
    rw [hsaid, show (T : Int) + (k : Int) = ((T + k : Nat) : Int) by omega]
    by_cases h5 : (df (iter a k t).1).status = 0
    · rw [dF (by omega), cond_false]
      exact ih (T + k) (df (iter a k t).1) hsw h5 (by omega) hE2 ZM
    · rw [dT h5, cond_true]
      exact LH hc hb hsw (by omega) hE2 ZM
theorem YX (c : List Int) : sub? c 0 (min (c.length : Int) 30) = some (c.take 30) := by
  rcases Nat.le_total 30 c.length with h | h
  · have := Zd (l := c) (a := 0) (b := 30) (by omega) h
    rw [show ((0 : Nat) : Int) = 0 from rfl] at this
    rw [show (min (c.length : Int) 30) = ((30 : Nat) : Int) by omega, this, List.drop_zero]
  · have := Zd (l := c) (a := 0) (b := c.length) (by omega) (Nat.le_refl _)
    rw [show ((0 : Nat) : Int) = 0 from rfl] at this
    rw [show (min (c.length : Int) 30) = ((c.length : Nat) : Int) by omega, this, List.drop_zero, List.take_length, List.take_of_length_le h]
theorem vmParts (a : List bN) (b : LX.State) (c : List Int) : ∃ N, rA N a b c = some true := by
  refine ⟨NN, ?_⟩
  unfold rA
  rw [Xo, bnd, Bool.not_true, cond_false, Cn, bnd]
  have bad : iK NN c a b true = some true := by unfold iK; rw [cond_true, Xo]; rfl
  by_cases h1 : RV a = 0
  · rw [if_neg (by omega)]
    by_cases h2 : UD a b = 0
    · by_cases h0 : b.status = 0
      · rw [show (decide ((UD a b : Int) ≠ 0) || decide ((b.status : Int) ≠ 0)) = false by simp [h2, h0]]
        have hs := JU.1 h2
        unfold iK
        rw [cond_false, YX, bnd]
        have := J7 h1 hs (c.take 30) 0 b hs h0 (by rw [List.length_take]; omega) rfl (fun j hj => absurd hj (Nat.not_lt_zero _))
        exact this
      · rw [show (decide ((UD a b : Int) ≠ 0) || decide ((b.status : Int) ≠ 0)) = true by simp [h0]]; exact bad
    · rw [show (decide ((UD a b : Int) ≠ 0) || decide ((b.status : Int) ≠ 0)) = true by simp [h2]]; exact bad
  · rw [if_pos h1, show (decide ((RV a : Int) ≠ 0) || decide ((b.status : Int) ≠ 0)) = true by simp [h1]]; exact bad
end Go.Proofs.YtfclkapelkhlpaaGreatDoor
