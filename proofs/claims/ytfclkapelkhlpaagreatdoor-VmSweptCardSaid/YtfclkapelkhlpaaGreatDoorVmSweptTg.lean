/-
  What the law VmSwept needs of our own library and of the walks, no more.
-/
import Derived.Test.YtfclkapelkhlpaaGreatDoorVmSweptTf
set_option linter.unusedSimpArgs false
set_option linter.unusedVariables false
set_option maxRecDepth 10000
namespace Go.Proofs.YtfclkapelkhlpaaGreatDoor
open Go Go.Proofs Go.LX
noncomputable section
abbrev NG : List (Int × Str) := [(2, [118]), (4, [46]), (5, [110, 101, 119]), (6, [102]), (1, [])]
theorem bnd {α β : Type} (a : α) (f : α → Option β) : (some a).bind f = f a := rfl
theorem Qi {α σ : Type} {g : α → Option σ} {l : List α} (hu : ∀ p ∈ l, ∀ q ∈ l, g p ≠ none → g q ≠ none → p = q) {p : α} (hp : p ∈ l) {t : σ} (h : g p = some t) : l.findSome? g = some t := by
  cases e : l.findSome? g with
  | none =>
    rw [List.findSome?_eq_none_iff] at e
    rw [e p hp] at h; cases h
  | some u =>
    obtain ⟨q, hq, hqu⟩ := List.exists_of_findSome?_eq_some e
    have := hu p hp q hq (by rw [h]; simp) (by rw [hqu]; simp)
    subst this
    rw [h] at hqu; exact hqu.symm
theorem I9 {α σ : Type} {step : α → σ → Option σ} {g : α → Option σ} : ∀ {l : List α}, (∀ p ∈ l, ∀ s, step p s = some ((g p).getD s)) → (∀ p ∈ l, g p = none) → ∀ s, FW step l s = some s
  | [], _, _, s => rfl
  | p :: l, h, hn, s => by
    unfold FW
    rw [h p (by simp), hn p (by simp), Option.getD_none, bnd]
    exact I9 (fun q hq => h q (List.mem_cons_of_mem _ hq)) (fun q hq => hn q (List.mem_cons_of_mem _ hq)) s
theorem Ja {α σ : Type} {step : α → σ → Option σ} {g : α → Option σ} : ∀ {l : List α}, (∀ p ∈ l, ∀ s, step p s = some ((g p).getD s)) → (∀ p ∈ l, ∀ q ∈ l, g p ≠ none → g q ≠ none → p = q) → l.Nodup → ∀ s, FW step l s = some ((l.findSome? g).getD s)
  | [], _, _, _, s => rfl
  | p :: l, h, hu, hn, s => by
    unfold FW
    rw [h p (by simp), bnd]
    have hn' := List.nodup_cons.1 hn
    cases e : g p with
    | none =>
      rw [Option.getD_none, Ja (fun q hq => h q (List.mem_cons_of_mem _ hq)) (fun a ha b hb => hu a (List.mem_cons_of_mem _ ha) b (List.mem_cons_of_mem _ hb)) hn'.2 s, List.findSome?_cons, e]
    | some t =>
      rw [Option.getD_some, I9 (fun q hq => h q (List.mem_cons_of_mem _ hq)) (fun q hq => ?_) t, List.findSome?_cons, e]
      · rfl
      · cases e2 : g q with
        | none => rfl
        | some u =>
          have := hu p (by simp) q (List.mem_cons_of_mem _ hq) (by rw [e]; simp) (by rw [e2]; simp)
          subst this
          exact absurd hq hn'.1
theorem Qj {α σ : Type} {step : α → σ → Option σ} {g : α → Option σ} {L : List α} (h : ∀ p ∈ L, ∀ s, step p s = some ((g p).getD s)) (hu : ∀ p ∈ L, ∀ q ∈ L, g p ≠ none → g q ≠ none → p = q) (hn : L.Nodup) (s : σ) : qR step L s ((L.findSome? g).getD s) := by
  intro l hl
  rw [Ja (fun p hp => h p (hl.mem_iff.1 hp)) (fun p hp q hq => hu p (hl.mem_iff.1 hp) q (hl.mem_iff.1 hq)) (hl.nodup_iff.2 hn) s]
  congr 2
  cases e : L.findSome? g with
  | none =>
    rw [List.findSome?_eq_none_iff] at e ⊢
    exact fun x hx => e x (hl.mem_iff.1 hx)
  | some t =>
    obtain ⟨p, hp, ht⟩ := List.exists_of_findSome?_eq_some e
    exact Qi (fun p hp q hq => hu p (hl.mem_iff.1 hp) q (hl.mem_iff.1 hq)) (hl.mem_iff.2 hp) ht
def joO (pe : Int × Str) (y : Int × Bool) (x : Bool) : Option (Int × Int) := bif x then some (pe.1, y.1) else none
def LG (s : Str) (pe : Int × Str) : Option (Option (Int × Int)) :=
  (strings_TrimPrefix s pe.2).bind fun JQ => (zJ JQ).bind fun CP => bif (!CP.2) then (jB (⟨pe.1, CP.1⟩ : Tok)).bind fun qI => some (joO pe CP (decide ((qI : Str) = s))) else some (joO pe CP false)
theorem U0 (pe : Int × Str) (y : Int × Bool) (a b : Int) (x : Bool) : sD pe y a b x = some ((joO pe y x).getD (a, b)) := by
  unfold sD joO; cases x <;> rfl
theorem U1 (s : Str) (pe : Int × Str) (st : Int × Int) : nY s pe st = (LG s pe).bind fun o => some (o.getD st) := by
  obtain ⟨a, b⟩ := st
  unfold nY LG
  simp only [U0]
  cases strings_TrimPrefix s pe.2 with
  | none => rfl
  | some y =>
    simp only [bnd]
    cases zJ y with
    | none => rfl
    | some z =>
      simp only [bnd]
      cases z.2 with
      | true => rfl
      | false =>
        simp only [Bool.not_false, cond_true]
        cases jB (⟨pe.1, z.1⟩ : Tok) <;> rfl
def gO (s : Str) (p : Int × Str) : Option (Int × Int) := (LG s p).join
def okW (s : Str) : Bool := NG.all (fun p => (LG s p).isSome) && NG.all (fun p => NG.all fun q => (gO s p).isNone || (gO s q).isNone || decide (p = q))
def preC (s : Str) : Int × Int := (NG.findSome? (gO s)).getD (0, 0)
theorem U2 {s : Str} (h : okW s = true) : wS (nY s) NG (0, 0) = some (preC s) := by
  unfold okW at h
  rw [Bool.and_eq_true, List.all_eq_true, List.all_eq_true] at h
  refine Mq (Qj (g := gO s) (fun p hp st => ?_) (fun p hp q hq h1 h2 => ?_) (by decide) (0, 0))
  · have h1 := h.1 p hp
    rw [U1]
    unfold gO
    cases e : LG s p with
    | none => rw [e] at h1; cases h1
    | some o => cases o <;> rfl
  · have := List.all_eq_true.1 (h.2 p hp) q hq
    rw [Bool.or_eq_true, Bool.or_eq_true] at this
    rcases this with (e | e) | e
    · exact absurd (Option.isNone_iff_eq_none.1 e) h1
    · exact absurd (Option.isNone_iff_eq_none.1 e) h2
    · exact of_decide_eq_true e
def Tk (s : Str) : Option (Int × Int) := bif okW s then some (preC s) else wS (nY s) NG (0, 0)
theorem Tm (s : Str) : Tk s = wS (nY s) NG (0, 0) := by
  unfold Tk
  cases e : okW s with
  | false => rfl
  | true => exact (U2 e).symm
def tZ (N : Nat) (vR : List Tok) (F : List fB) (yB : Int) (xS : (List Tok × Int × Bool × Int) → Option (List Tok × dO)) (x29 : Str) (Fy : Bool) (y31 : Int) : Option (List Tok × dO) :=
  (Tk x29).bind fun KY => (CQ N x29 vR F y31 yB xS Fy) KY
theorem GN : @tZ = @sF := by
  funext a b c d e f g h
  unfold tZ sF
  rw [Tm]
def xw (N : Nat) (W : List Str) (F : List fB) (s : List Tok × Int × Bool × Int) (xS : List Tok × Int × Bool × Int → Option (List Tok × dO)) : Option (List Tok × dO) :=
  match s with | (vR, yB, MO, y20) => bif (decide ((0 : Int) < yB) && MO) then bif decide (((W.length : Int) : Int) ≤ y20) then tZ N vR F yB xS [] false y20 else ib (jO (y20 + 1)) (ib (jO ((y20 + 1) - 1)) ((idx W ((y20 + 1) - 1)).bind fun x103 => tZ N vR F yB xS x103 MO (y20 + 1))) else some (vR, (⟨y20, MO⟩ : dO))
theorem GQ : @xw = @sG := by
  unfold xw sG
  rw [GN]
def Db (N : Nat) (sx : dO) (W : List Str) (F : List fB) : Option (List Tok × dO) :=
  again (xw N W F) N ([], 1, sx.ok, sx.at_)
theorem Jb : @Db = @CR := by
  unfold Db CR
  rw [GQ]
def uf (N : Nat) (F0 : dO → List Str → List fB → Int → Option (List bI × dO)) (lQ : Int) (W : List Str) (F : List fB) (a : Int) (mK : List bI) (xC : Int) (jM : (List bI × Int × Bool) → Option (List bI × dO)) (MV : Int) (MW : Bool) (sW : List Tok) : Option (List bI × dO) :=
  bif decide (((lQ + 1) : Int) = 2) then (Db N (⟨MV, MW⟩ : dO) W F).bind fun JQ => sH F0 lQ a W F mK xC sW jM JQ.2.at_ JQ.2.ok JQ.1 else sH F0 lQ a W F mK xC sW jM MV MW []
theorem GR : @uf = @sI := by
  unfold uf sI
  rw [Jb]
def qO (N : Nat) (F0 : dO → List Str → List fB → Int → Option (List bI × dO)) (lQ : Int) (W : List Str) (F : List fB) (a : Int) (mK : List bI) (jM : (List bI × Int × Bool) → Option (List bI × dO)) (wu : Int) (yQ : Bool) (xC : Int) : Option (List bI × dO) :=
  bif decide (((lQ + 1) : Int) ≠ 4) then (Db N (⟨wu, yQ⟩ : dO) W F).bind fun y95 => uf N F0 lQ W F a mK xC jM y95.2.at_ y95.2.ok y95.1 else uf N F0 lQ W F a mK xC jM wu yQ []
theorem GU : @qO = @qw := by
  unfold qO qw
  rw [Jb, GR]
def ug (N : Nat) (F0 : dO → List Str → List fB → Int → Option (List bI × dO)) (mK : List bI) (W : List Str) (F : List fB) (a : Int) (jM : (List bI × Int × Bool) → Option (List bI × dO)) (x27 : Str) (y28 : Int) (y29 : Bool) : Option (List bI × dO) :=
  bif decide ((x27 : Str) = [125]) then some (mK, (⟨y28, y29⟩ : dO)) else (Cz [115, 101, 116, 32, 112, 117, 116, 32, 115, 97, 121, 32, 112, 97, 117, 115, 101, 32, 103, 111, 32, 105, 102, 32, 119, 104, 105, 108, 101, 32, 114, 101, 116, 117, 114, 110]).bind fun y31 => (slices_Index_string y31 x27).bind fun lQ => ib (jO (lQ + 1)) (bif (!(y29 && decide ((0 : Int) < (lQ + 1)))) then some ([], (⟨y28, (y29 && decide ((0 : Int) < (lQ + 1)))⟩ : dO)) else bif decide (((lQ + 1) : Int) ≤ 2) then bif decide (((W.length : Int) : Int) ≤ y28) then (zJ []).bind fun y104 => qO N F0 lQ W F a mK jM y28 false y104.1 else ib (jO (y28 + 1)) (ib (jO ((y28 + 1) - 1)) ((idx W ((y28 + 1) - 1)).bind fun MX => (zJ MX).bind fun MZ => qO N F0 lQ W F a mK jM (y28 + 1) (y29 && decide ((0 : Int) < (lQ + 1))) MZ.1)) else qO N F0 lQ W F a mK jM y28 (y29 && decide ((0 : Int) < (lQ + 1))) 0)
theorem GV : @ug = @sJ := by
  unfold ug sJ
  rw [GU]
def xx (N : Nat) (F0 : dO → List Str → List fB → Int → Option (List bI × dO)) (W : List Str) (F : List fB) (a : Int) (s : List bI × Int × Bool) (jM : List bI × Int × Bool → Option (List bI × dO)) : Option (List bI × dO) :=
  match s with | (mK, Fe, Ho) => bif Ho then bif decide (((W.length : Int) : Int) ≤ Fe) then ug N F0 mK W F a jM [] Fe false else ib (jO (Fe + 1)) (ib (jO ((Fe + 1) - 1)) ((idx W ((Fe + 1) - 1)).bind fun Gd => ug N F0 mK W F a jM Gd (Fe + 1) Ho)) else some ([], (⟨Fe, Ho⟩ : dO))
theorem GX : @xx = @sK := by
  unfold xx sK
  rw [GV]
def vP (N : Nat) (F0 : dO → List Str → List fB → Int → Option (List bI × dO)) (W : List Str) (F : List fB) (a : Int) (y1 : Int) (y2 : Bool) : Option (List bI × dO) :=
  again (xx N F0 W F a) N ([], y1, y2)
theorem H9 : @vP = @uC := by
  unfold vP uC
  rw [GX]
def uh (N : Nat) (F0 : dO → List Str → List fB → Int → Option (List bI × dO)) (W : List Str) (F : List fB) (a : Int) (BD : Bool) (Ff : Int) (JS : Bool) : Option (List bI × dO) :=
  bif BD then vP N F0 W F a Ff false else vP N F0 W F a Ff JS
theorem GY : @uh = @sM := by
  unfold uh sM
  rw [H9]
def w9 (N : Nat) (F0 : dO → List Str → List fB → Int → Option (List bI × dO)) (sx : dO) (W : List Str) (F : List fB) (a : Int) : Option (List bI × dO) :=
  bif decide (((W.length : Int) : Int) ≤ sx.at_) then uh N F0 W F a true sx.at_ false else ib (jO (sx.at_ + 1)) (ib (jO ((sx.at_ + 1) - 1)) ((idx W ((sx.at_ + 1) - 1)).bind fun KZ => uh N F0 W F a (decide ((KZ : Str) ≠ [123]) || decide ((6 : Int) < a)) (sx.at_ + 1) sx.ok))
theorem Kb : @w9 = @wy := by
  unfold w9 wy
  rw [GY]
def yA : Nat → dO → List Str → List fB → Int → Option (List bI × dO)
  | 0 => fun _ _ _ _ => none
  | N + 1 => w9 N (yA N)
theorem GZ : ∀ N, yA N = uD N
  | 0 => rfl
  | N + 1 => by show w9 N (yA N) = wy N (uD N); rw [Kb, GZ N]
def jc (N : Nat) (y1 : List Str) (qI : List fB) (i101 : Int) (kH : (List fB × Int × Bool) → Option (List fB × Int)) (Fg : Int) (y112 : Bool) : Option (List fB × Int) :=
  (yA N (⟨Fg, y112⟩ : dO) y1 qI 1).bind fun jY => (idx qI i101).bind fun vS => kH ((qI.set (i101).toNat { vS with body := jY.1 }), jY.2.at_, jY.2.ok)
theorem uY : @jc = @iA := by
  unfold jc iA
  rw [show @yA = @uD from funext GZ]
def jd (N : Nat) (y1 : List Str) (qI : List fB) (i101 : Int) (kH : (List fB × Int × Bool) → Option (List fB × Int)) (xq : Int) (JV : Bool) : Option (List fB × Int) :=
  bif decide (((y1.length : Int) : Int) ≤ xq) then jc N y1 qI i101 kH xq false else ib (jO (xq + 1)) (ib (jO ((xq + 1) - 1)) ((idx y1 ((xq + 1) - 1)).bind fun UC => jc N y1 qI i101 kH (xq + 1) JV))
theorem uZ : @jd = @iB := by
  unfold jd iB
  rw [uY]
def je (N : Nat) (y1 : List Str) (qI : List fB) (i101 : Int) (kH : (List fB × Int × Bool) → Option (List fB × Int)) (oI : Int) (JW : Bool) : Option (List fB × Int) :=
  bif decide (((y1.length : Int) : Int) ≤ oI) then jd N y1 qI i101 kH oI false else ib (jO (oI + 1)) (ib (jO ((oI + 1) - 1)) ((idx y1 ((oI + 1) - 1)).bind fun UD => jd N y1 qI i101 kH (oI + 1) JW))
theorem u6 : @je = @iC := by
  unfold je iC
  rw [uZ]
def jf (N : Nat) (y1 : List Str) (qI : List fB) (i101 : Int) (kH : (List fB × Int × Bool) → Option (List fB × Int)) (K4 : Bool) (Fh : Int) (JX : Bool) : Option (List fB × Int) :=
  bif K4 then je N y1 qI i101 kH Fh false else je N y1 qI i101 kH Fh JX
theorem u7 : @jf = @iD := by
  unfold jf iD
  rw [u6]
def kC (N : Nat) (y1 : List Str) (i101 : Int) (s : List fB × Int × Bool) (kH : List fB × Int × Bool → Option (List fB × Int)) : Option (List fB × Int) :=
  match s with | (qI, y98, y99) => bif decide (((y1.length : Int) : Int) ≤ y98) then jf N y1 qI i101 kH true y98 false else ib (jO (y98 + 1)) (ib (jO ((y98 + 1) - 1)) ((idx y1 ((y98 + 1) - 1)).bind fun x152 => jf N y1 qI i101 kH (decide ((x152 : Str) ≠ [102, 117, 110])) (y98 + 1) y99))
theorem vg : @kC = @iE := by
  unfold kC iE
  rw [u7]
def kD (N : Nat) (y1 : List Str) (a : Str) (vI : List fB) (s : Unit) : Option (List fB × Int) :=
  upto (kC N y1) (jl N y1 a) 0 ((vI.length : Int)).toNat (vI, 0, true)
theorem vk : @kD = @iF := by
  unfold kD iF
  rw [vg]
def kE (N : Nat) (y1 : List Str) (a : Str) (vI : List fB) : Option (List fB × Int) :=
  bif (decide (((vI.length : Int) : Int) = 0) || decide ((4 : Int) < (vI.length : Int))) then some ([], 1) else upto (jm vI) (kD N y1 a vI) 0 ((vI.length : Int)).toNat ()
theorem vo : @kE = @iG := by
  unfold kE iG
  rw [vk]
def nI (N : Nat) (a : Str) : Option (List fB × Int) :=
  (Jt a [32]).bind fun y1 => dU (jo y1) (kE N y1 a) 0 y1 []
theorem xy : @nI = @ky := by
  unfold nI ky
  rw [vo]
def qi (N : Nat) : Option (List fB) :=
  (nI N [102, 117, 110, 32, 48, 32, 49, 32, 123, 32, 115, 101, 116, 32, 48, 32, 51, 32, 119, 104, 105, 108, 101, 32, 118, 48, 32, 123, 32, 115, 97, 121, 32, 102, 49, 32, 118, 48, 32, 118, 48, 32, 103, 111, 32, 118, 48, 32, 112, 97, 117, 115, 101, 32, 115, 101, 116, 32, 48, 32, 45, 32, 118, 48, 32, 49, 32, 125, 32, 125, 32, 102, 117, 110, 32, 50, 32, 50, 32, 123, 32, 114, 101, 116, 117, 114, 110, 32, 42, 32, 118, 48, 32, 118, 49, 32, 125]).bind fun y1 => some y1.1
theorem zB : @qi = @ko := by
  unfold qi ko
  rw [xy]
abbrev NN : Nat := 70000
theorem Qk : ko NN = qi NN := by rw [zB]
theorem Tn : oJ NN = some true := by
  unfold oJ
  rw [Qk]
  kernel_rfl
end
end Go.Proofs.YtfclkapelkhlpaaGreatDoor
namespace Go.Proofs.YtfclkapelkhlpaaGreatDoor
open Go Go.Proofs Go.LX
theorem Dc (a b : Int) : (decide (a < 0) || decide (b ≤ a)) = !aY a b := by
  unfold aY; rw [Bool.eq_iff_iff]; simp; try omega
theorem idx0 {α : Type} (x : α) (l : List α) : idx (x :: l) 0 = some x := by simp [idx]
theorem OC {l : List Int} : l.length = 1 ↔ ∃ x, l = [x] := by
  match l with
  | [] => simp
  | [x] => simp
  | x :: y :: r => simp
def xz (i : Nat) (x : dx) : Int :=
  if (0 ≤ x.params ∧ x.params ≤ 3) ∧ (1 ≤ x.regs ∧ x.params ≤ x.regs ∧ x.regs ≤ 40) ∧ ¬ (i = 0 ∧ x.params ≠ 0) then (if 1 ≤ x.code.length ∧ x.code.length ≤ 2000 then 0 else 2) else 3
theorem XU (i : Nat) (x : dx) (nx : Unit → Option Int) : iV (i : Int) x () nx = if xz i x ≠ 0 then some (xz i x) else nx () := by
  unfold iV xz
  by_cases h1 : (0 ≤ x.params ∧ x.params ≤ 3) ∧ (1 ≤ x.regs ∧ x.params ≤ x.regs ∧ x.regs ≤ 40) ∧ ¬ (i = 0 ∧ x.params ≠ 0)
  · have e : (((((decide ((x.params : Int) < 0) || decide ((3 : Int) < x.params)) || decide ((x.regs : Int) < 1)) || decide ((x.regs : Int) < x.params)) || decide ((40 : Int) < x.regs)) || (decide ((i : Int) = 0) && decide ((0 : Int) < x.params))) = false := by
      simp only [Bool.or_eq_false_iff, Bool.and_eq_false_iff, decide_eq_false_iff_not]; omega
    rw [e, if_pos h1]
    simp only [cond_false]
    by_cases h2 : 1 ≤ x.code.length ∧ x.code.length ≤ 2000
    · rw [if_pos h2, show (decide (((x.code.length : Int) : Int) = 0) || decide ((2000 : Int) < (x.code.length : Int))) = false by simp only [Bool.or_eq_false_iff, decide_eq_false_iff_not]; omega]
      rfl
    · rw [if_neg h2, show (decide (((x.code.length : Int) : Int) = 0) || decide ((2000 : Int) < (x.code.length : Int))) = true by simp only [Bool.or_eq_true, decide_eq_true_eq]; omega]
      rfl
  · have e : (((((decide ((x.params : Int) < 0) || decide ((3 : Int) < x.params)) || decide ((x.regs : Int) < 1)) || decide ((x.regs : Int) < x.params)) || decide ((40 : Int) < x.regs)) || (decide ((i : Int) = 0) && decide ((0 : Int) < x.params))) = true := by
      simp only [Bool.or_eq_true, Bool.and_eq_true, decide_eq_true_eq]; omega
    rw [e, if_neg h1]
    rfl
def heads : Nat → List dx → Int
  | _, [] => 0
  | i, x :: p => if xz i x ≠ 0 then xz i x else heads (i + 1) p
theorem G5 (k : Unit → Option Int) : ∀ (p : List dx) (i : Nat), dU iV k (i : Int) p () = if heads i p ≠ 0 then some (heads i p) else k ()
  | [], i => by simp [heads, dU]
  | x :: p, i => by
    show iV (i : Int) x () (dU iV k ((i : Int) + 1) p) = _
    rw [XU, show ((i : Int) + 1) = ((i + 1 : Nat) : Int) by omega, G5 k p (i + 1), heads]
    by_cases h : xz i x = 0 <;> simp [h]
end Go.Proofs.YtfclkapelkhlpaaGreatDoor
namespace Go.Proofs.YtfclkapelkhlpaaGreatDoor
open Go Go.Proofs Go.LX
def ui (x : dx) : Prop := 1 ≤ x.code.length ∧ x.code.length ≤ 2000
theorem dW {α σ ρ : Type} {body : α → σ → (σ → ρ) → ρ} {k : σ → ρ} (x : α) (l : List α) (s : σ) : each body k (x :: l) s = body x s (each body k l) := rfl
theorem iw {α σ ρ : Type} {body : α → σ → (σ → ρ) → ρ} {k : σ → ρ} (s : σ) : each body k [] s = k s := rfl
theorem Tp (d : Int) : ∀ l : List Int, ∃ y, each (mF d) qN l () = some y
  | [] => ⟨0, rfl⟩
  | x :: l => by
    obtain ⟨y, hy⟩ := Tp d l
    rw [dW]
    unfold mF
    cases (!(decide ((0 : Int) ≤ x) && decide ((x : Int) < d))) with
    | true => exact ⟨3, rfl⟩
    | false => exact ⟨y, hy⟩
theorem Tq (x9 : Bool) (a : Ins) (b FC : Int) (c : List dx) (y13 zw d Qv : Int) : ∃ y, ed x9 a b FC c y13 zw d Qv = some y ∧ (y = 0 → (a.args.length : Int) = zw) := by
  unfold ed
  cases x9 with
  | false => exact ⟨3, rfl, fun h => absurd h (by decide)⟩
  | true =>
    simp only [Bool.not_true, cond_false]
    generalize hc : (((decide ((a.a : Int) ≠ Qv) || decide ((a.b : Int) ≠ FC)) || decide ((a.c : Int) ≠ y13)) || decide (((a.args.length : Int) : Int) ≠ zw)) = C
    cases C with
    | true => exact ⟨4, rfl, fun h => absurd h (by decide)⟩
    | false =>
      simp only [Bool.or_eq_false_iff, decide_eq_false_iff_not, Decidable.not_not] at hc
      simp only [cond_false]
      cases decide ((a.op : Int) = 7) with
      | true => obtain ⟨y, hy⟩ := Tp d a.args; exact ⟨y, hy, fun _ => hc.2⟩
      | false => exact ⟨0, rfl, fun _ => hc.2⟩
theorem XV (a : Ins) (b : Int) (c : List dx) (d : Int) (x9 : Bool) (zw PL FC y13 : Int) : ∃ y, cO a b c d x9 zw PL FC y13 = some y ∧ (y = 0 → (a.args.length : Int) = zw) := by
  unfold cO
  cases decide ((a.op : Int) = 12) with
  | true => exact Tq x9 a b FC c y13 zw d 0
  | false => exact Tq x9 a b FC c y13 zw d PL
def Kc (a : Ins) (r : Option Int) : Prop := ∃ y, r = some y ∧ (y = 0 → a.args.length ≤ 3)
theorem Ia (a : Ins) (b : Int) (c : List dx) (d : Int) (x9 : Bool) {zw : Int} (PL FC y13 : Int) (h : zw ≤ 3) : Kc a (cO a b c d x9 zw PL FC y13) := by
  obtain ⟨y, h1, h2⟩ := XV a b c d x9 zw PL FC y13
  exact ⟨y, h1, fun h0 => by have := h2 h0; omega⟩
theorem oK {a : Ins} {c : Bool} {x y : Option Int} (h1 : Kc a x) (h2 : Kc a y) : Kc a (bif c then x else y) := by
  cases c
  · exact h2
  · exact h1
theorem G6 {a : Ins} {e : Int} (h : e ≠ 0) : Kc a (some e) := ⟨e, rfl, fun h0 => absurd h0 h⟩
theorem Ql (a : Ins) (b : Int) (c : List dx) (d e : Int) (hp : ∀ x ∈ c, x.params ≤ 3) : Kc a (gV a b c d e) := by
  unfold gV
  refine oK (G6 (by decide)) (oK (G6 (by decide)) (oK (Ia _ _ _ _ _ _ _ _ (by decide)) (oK (Ia _ _ _ _ _ _ _ _ (by decide)) ?_)))
  have k12 : ∀ x, Kc a (dI a b c d x) := fun x => by
    unfold dI
    exact oK (Ia _ _ _ _ _ _ _ _ (by decide)) (oK (Ia _ _ _ _ _ _ _ _ (by decide)) (Ia _ _ _ _ _ _ _ _ (by decide)))
  have k11 : ∀ x, Kc a (dM a b c d e x) := fun x => by
    unfold dM
    refine oK (Ia _ _ _ _ _ _ _ _ (by decide)) ?_
    cases decide ((a.op : Int) = 7) with
    | false =>
      rw [cond_false]
      exact oK (k12 _) (oK (k12 _) (k12 _))
    | true =>
      simp only [cond_true]
      rw [Dc]
      cases hb : aY a.b (c.length : Int) with
      | false => exact G6 (by decide)
      | true =>
        simp only [Bool.not_true, cond_false]
        unfold aY at hb
        simp only [Bool.and_eq_true, decide_eq_true_eq] at hb
        obtain ⟨n, hn⟩ := Int.eq_ofNat_of_zero_le hb.1
        rw [hn, zI (by omega), Option.bind_some]
        exact Ia _ _ _ _ _ _ _ _ (hp _ (List.getElem_mem _))
  have k10 : ∀ x, Kc a (dN a b c d e x) := fun x => by
    unfold dN
    refine oK (Ia _ _ _ _ _ _ _ _ (by decide)) ?_
    cases decide ((a.op : Int) = 3) with
    | false =>
      rw [cond_false]
      exact oK (k11 _) (k11 _)
    | true =>
      simp only [cond_true]
      by_cases h1 : a.args.length = 1
      · rw [dT (show ((a.args.length : Int) : Int) = 1 by omega)]
        obtain ⟨y, hy⟩ := OC.1 h1
        simp only [cond_true]
        rw [show idx a.args 0 = some y by rw [hy, idx0], Option.bind_some]
        exact Ia _ _ _ _ _ _ _ _ (by decide)
      · rw [dF (show ¬ ((a.args.length : Int) : Int) = 1 by omega)]
        exact Ia _ _ _ _ _ _ _ _ (by decide)
  exact oK (k10 _) (k10 _)
def Good (a : List dx) : Prop := a.length ≤ 4 ∧ ∀ x ∈ a, ui x ∧ ∀ c ∈ x.code, c.args.length ≤ 3
theorem LH {i : Nat} {x : dx} (h : xz i x = 0) : x.params ≤ 3 ∧ ui x := by
  unfold xz at h
  split at h
  · split at h
    · exact ⟨by omega, by unfold ui; omega⟩
    · cases h
  · cases h
theorem G7 : ∀ (p : List dx) (i : Nat), heads i p = 0 → ∀ x ∈ p, x.params ≤ 3 ∧ ui x
  | [], _, _, x, hx => by cases hx
  | y :: p, i, h, x, hx => by
    unfold heads at h
    split at h
    · rename_i h1; exact absurd h h1
    · rename_i h1
      rcases List.mem_cons.1 hx with rfl | hx
      · exact LH (Decidable.not_not.1 h1)
      · exact G7 p (i + 1) h x hx
theorem OD (a : List dx) (x : dx) (k : Unit → Option Int) (hp : ∀ x ∈ a, x.params ≤ 3) (Q : Prop) (hk : ∃ y, k () = some y ∧ (y = 0 → Q)) : ∀ (l : List Ins) (i : Int), ∃ y, dU (gm a x) k i l () = some y ∧ (y = 0 → Q ∧ ∀ c ∈ l, c.args.length ≤ 3)
  | [], i => by
    obtain ⟨y, h1, h2⟩ := hk
    exact ⟨y, h1, fun h => ⟨h2 h, by intro c hc; cases hc⟩⟩
  | c :: l, i => by
    obtain ⟨y, h1, h2⟩ := OD a x k hp Q hk l (i + 1)
    have e1 : dU (gm a x) k i (c :: l) () = gm a x i c () (dU (gm a x) k (i + 1) l) := rfl
    rw [e1]
    unfold gm
    obtain ⟨z, g1, g2⟩ := Ql c i a x.regs (x.code.length : Int) hp
    rw [g1, Option.bind_some]
    by_cases hz : z = 0
    · rw [dF (by omega), cond_false]
      refine ⟨y, h1, fun h => ⟨(h2 h).1, fun d hd => ?_⟩⟩
      rcases List.mem_cons.1 hd with rfl | hd
      · exact g2 hz
      · exact (h2 h).2 d hd
    · rw [dT hz, cond_true]
      exact ⟨z, rfl, fun h => absurd h hz⟩
theorem OE (a : List dx) (hp : ∀ x ∈ a, x.params ≤ 3 ∧ ui x) : ∀ l : List dx, (∀ x ∈ l, x.params ≤ 3 ∧ ui x) → ∃ y, each (jQ a) mY l () = some y ∧ (y = 0 → ∀ x ∈ l, ∀ c ∈ x.code, c.args.length ≤ 3)
  | [], _ => ⟨0, rfl, fun _ x hx => by cases hx⟩
  | x :: l, hl => by
    obtain ⟨y, h1, h2⟩ := OE a hp l (fun z hz => hl z (List.mem_cons_of_mem _ hz))
    rw [dW]
    unfold jQ
    have hx := hl x (by simp)
    obtain ⟨z, g1, g2⟩ := OD a x (mX x (each (jQ a) mY l)) (fun x hx => (hp x hx).1) (∀ x ∈ l, ∀ c ∈ x.code, c.args.length ≤ 3) (by
      unfold mX
      have h3 := hx.2
      unfold ui at h3
      rw [gI, show ((x.code.length : Int) - 1) = ((x.code.length - 1 : Nat) : Int) by omega, zI (by omega), Option.bind_some]
      cases (decide ((x.code[x.code.length - 1].op : Int) ≠ 8) && decide ((x.code[x.code.length - 1].op : Int) ≠ 12)) with
      | true => exact ⟨4, rfl, fun h => absurd h (by decide)⟩
      | false => exact ⟨y, h1, h2⟩) x.code 0
    refine ⟨z, g1, fun h => ?_⟩
    intro w hw
    rcases List.mem_cons.1 hw with rfl | hw
    · exact (g2 h).2
    · exact (g2 h).1 w hw
theorem Qm (a : List dx) : ∃ y, pW a = some y ∧ (y = 0 → Good a) := by
  unfold pW
  generalize hc : (decide (((a.length : Int) : Int) = 0) || decide ((4 : Int) < (a.length : Int))) = C
  cases C with
  | true => exact ⟨2, rfl, fun h => absurd h (by decide)⟩
  | false =>
    simp only [Bool.or_eq_false_iff, decide_eq_false_iff_not] at hc
    have h1 : dU iV (lG a) 0 a () = _ := G5 (lG a) a 0
    rw [cond_false, h1]
    by_cases hz : heads 0 a = 0
    · rw [if_neg (by omega)]
      have hp := G7 a 0 hz
      obtain ⟨y, g1, g2⟩ := OE a hp a hp
      exact ⟨y, g1, fun h => ⟨by omega, fun x hx => ⟨(hp x hx).2, g2 h x hx⟩⟩⟩
    · rw [if_pos hz]
      exact ⟨_, rfl, fun h => absurd h hz⟩
def XW (a : List dx) : Int := (pW a).getD 0
theorem Tt (a : List dx) : pW a = some (XW a) := by
  obtain ⟨y, h, _⟩ := Qm a
  unfold XW
  rw [h]; rfl
def EE (R x : Int) : Prop := 0 ≤ x ∧ x < R
def zC (a : List dx) (R L : Int) (c : Ins) : Prop :=
  (c.op = 1 ∧ EE R c.a ∧ (-1000000000 ≤ c.b ∧ c.b ≤ 1000000000)) ∨
  (c.op = 2 ∧ EE R c.a ∧ EE R c.b) ∨
  (c.op = 3 ∧ EE R c.a ∧ EE R c.b ∧ EE R c.c ∧ ∃ n, c.args = [n] ∧ 1 ≤ n ∧ n ≤ 5) ∨
  ((c.op = 4 ∨ c.op = 6) ∧ EE R c.a ∧ EE R c.b ∧ (0 ≤ c.c ∧ c.c < 4)) ∨
  (c.op = 5 ∧ EE R c.a ∧ (1 ≤ c.b ∧ c.b ≤ 4)) ∨
  (c.op = 7 ∧ EE R c.a ∧ (∃ p, idx a c.b = some p ∧ (c.args.length : Int) = p.params) ∧ ∀ x ∈ c.args, EE R x) ∨
  ((c.op = 8 ∨ c.op = 9 ∨ c.op = 11) ∧ EE R c.a) ∨
  c.op = 10 ∨
  (c.op = 12 ∧ (0 ≤ c.b ∧ c.b < L)) ∨
  (c.op = 13 ∧ EE R c.a ∧ (0 ≤ c.b ∧ c.b < L))
theorem OG (R : Int) : ∀ l : List Int, each (mF R) qN l () = some 0 → ∀ x ∈ l, EE R x
  | [], _, x, hx => by cases hx
  | y :: l, h, x, hx => by
    rw [dW] at h
    unfold mF at h
    cases e : (!(decide ((0 : Int) ≤ y) && decide ((y : Int) < R))) with
    | true => rw [e, cond_true] at h; cases h
    | false =>
      rw [e, cond_false] at h
      rcases List.mem_cons.1 hx with rfl | hx
      · simp at e; exact e
      · exact OG R l h x hx
theorem U3 {c : Ins} {i : Int} {a : List dx} {R L : Int} (h : gV c i a R L = some 0) : zC a R L c := by
  obtain ⟨op, ca, cb, cc, args⟩ := c
  by_cases h1 : op = 1
  · subst h1
    simp [gV, bR, dQ, fD, fQ, eH, cO, ed, dN, dM, dI, Bool.cond_eq_ite] at h
    simp [zC, EE]
    (repeat (split at h; · simp at h))
    omega
  by_cases h2 : op = 2
  · subst h2
    simp [gV, bR, dQ, fD, fQ, eH, cO, ed, dN, dM, dI, Bool.cond_eq_ite] at h
    simp [zC, EE]
    (repeat (split at h; · simp at h))
    omega
  by_cases h3 : op = 3
  · subst h3
    simp [gV, bR, dQ, fD, fQ, eH, cO, ed, dN, dM, dI, Bool.cond_eq_ite] at h
    simp [zC, EE]
    by_cases hl : args.length = 1
    · obtain ⟨y, rfl⟩ := OC.1 hl
      simp [idx0] at h
      split at h
      · simp at h
      split at h
      · simp at h
      refine ⟨by omega, by omega, by omega, y, rfl, by omega, by omega⟩
    · exfalso
      rw [if_neg (show ¬ ((args.length : Int) = 1) by omega)] at h
      split at h <;> simp at h
  by_cases h4 : op = 4
  · subst h4
    simp [gV, bR, dQ, fD, fQ, eH, cO, ed, dN, dM, dI, Bool.cond_eq_ite] at h
    simp [zC, EE]
    (repeat (split at h; · simp at h))
    omega
  by_cases h5 : op = 5
  · subst h5
    simp [gV, bR, dQ, fD, fQ, eH, cO, ed, dN, dM, dI, Bool.cond_eq_ite] at h
    simp [zC, EE]
    (repeat (split at h; · simp at h))
    omega
  by_cases h6 : op = 6
  · subst h6
    simp [gV, bR, dQ, fD, fQ, eH, cO, ed, dN, dM, dI, Bool.cond_eq_ite] at h
    simp [zC, EE]
    (repeat (split at h; · simp at h))
    omega
  by_cases h7 : op = 7
  · subst h7
    simp [gV, bR, dQ, fD, fQ, eH, cO, ed, dN, dM, dI, Bool.cond_eq_ite] at h
    simp [zC, EE]
    split at h
    · simp at h
    split at h
    · simp at h
    obtain ⟨p, hp, h⟩ := aQ h
    (repeat (split at h; · simp at h))
    refine ⟨by omega, ⟨p, hp, by omega⟩, fun x hx => OG R args h x hx⟩
  by_cases h8 : op = 8
  · subst h8
    simp [gV, bR, dQ, fD, fQ, eH, cO, ed, dN, dM, dI, Bool.cond_eq_ite] at h
    simp [zC, EE]
    (repeat (split at h; · simp at h))
    omega
  by_cases h9 : op = 9
  · subst h9
    simp [gV, bR, dQ, fD, fQ, eH, cO, ed, dN, dM, dI, Bool.cond_eq_ite] at h
    simp [zC, EE]
    (repeat (split at h; · simp at h))
    omega
  by_cases h10 : op = 10
  · subst h10
    simp [zC, EE]
  by_cases h11 : op = 11
  · subst h11
    simp [gV, bR, dQ, fD, fQ, eH, cO, ed, dN, dM, dI, Bool.cond_eq_ite] at h
    simp [zC, EE]
    (repeat (split at h; · simp at h))
    omega
  by_cases h12 : op = 12
  · subst h12
    simp [gV, bR, dQ, fD, fQ, eH, cO, ed, dN, dM, dI, Bool.cond_eq_ite] at h
    simp [zC, EE]
    (repeat (split at h; · simp at h))
    omega
  by_cases h13 : op = 13
  · subst h13
    simp [gV, bR, dQ, fD, fQ, eH, cO, ed, dN, dM, dI, Bool.cond_eq_ite] at h
    simp [zC, EE]
    (repeat (split at h; · simp at h))
    omega
  · exfalso
    simp [gV, bR, dQ, fD, fQ, eH, cO, ed, dN, dM, dI, Bool.cond_eq_ite, *] at h
structure Al (a : List dx) : Prop where
  many : 1 ≤ a.length ∧ a.length ≤ 4
  head : ∀ (i : Nat) x, a[i]? = some x → (0 ≤ x.params ∧ x.params ≤ 3) ∧ (1 ≤ x.regs ∧ x.params ≤ x.regs ∧ x.regs ≤ 40) ∧ ¬ (i = 0 ∧ x.params ≠ 0) ∧ ui x
  last : ∀ x ∈ a, ∃ c, idx x.code ((x.code.length : Int) - 1) = some c ∧ (c.op = 8 ∨ c.op = 12)
  ins : ∀ x ∈ a, ∀ c ∈ x.code, zC a x.regs x.code.length c
theorem Jc : ∀ (p : List dx) (j : Nat), heads j p = 0 → ∀ (i : Nat) x, p[i]? = some x → xz (j + i) x = 0
  | [], j, _, i, x, hx => by simp at hx
  | y :: p, j, h, i, x, hx => by
    unfold heads at h
    split at h
    · rename_i h1; exact absurd h h1
    · rename_i h1
      cases i with
      | zero => simp at hx; subst hx; exact Decidable.not_not.1 h1
      | succ i => rw [show j + (i + 1) = (j + 1) + i by omega]; exact Jc p (j + 1) h i x (by simpa using hx)
theorem OH (a : List dx) (x : dx) (k : Unit → Option Int) : ∀ (l : List Ins) (i : Int), dU (gm a x) k i l () = some 0 → k () = some 0 ∧ ∀ c ∈ l, zC a x.regs x.code.length c
  | [], i, h => ⟨h, fun c hc => by cases hc⟩
  | y :: l, i, h => by
    have e1 : dU (gm a x) k i (y :: l) () = gm a x i y () (dU (gm a x) k (i + 1) l) := rfl
    rw [e1] at h
    unfold gm at h
    obtain ⟨z, hz, h⟩ := aQ h
    by_cases z0 : z = 0
    · subst z0
      rw [dF (by simp), cond_false] at h
      obtain ⟨h1, h2⟩ := OH a x k l (i + 1) h
      refine ⟨h1, fun c hc => ?_⟩
      rcases List.mem_cons.1 hc with rfl | hc
      · exact U3 hz
      · exact h2 c hc
    · rw [dT z0, cond_true] at h
      exact absurd (Option.some.inj h) z0
theorem OI (a : List dx) : ∀ l : List dx, each (jQ a) mY l () = some 0 → ∀ x ∈ l, (∃ c, idx x.code ((x.code.length : Int) - 1) = some c ∧ (c.op = 8 ∨ c.op = 12)) ∧ ∀ c ∈ x.code, zC a x.regs x.code.length c
  | [], _, x, hx => by cases hx
  | y :: l, h, x, hx => by
    rw [dW] at h
    unfold jQ at h
    obtain ⟨h1, h2⟩ := OH a y _ y.code 0 h
    unfold mX at h1
    obtain ⟨_, h1⟩ := bM h1
    obtain ⟨c, hc, h1⟩ := aQ h1
    cases e : (decide ((c.op : Int) ≠ 8) && decide ((c.op : Int) ≠ 12)) with
    | true => rw [e, cond_true] at h1; cases h1
    | false =>
      rw [e, cond_false] at h1
      rcases List.mem_cons.1 hx with rfl | hx
      · exact ⟨⟨c, hc, by simp only [Bool.and_eq_false_iff, decide_eq_false_iff_not, Decidable.not_not] at e; exact e⟩, h2⟩
      · exact OI a l h1 x hx
theorem Tu {a : List dx} (h : XW a = 0) : Al a := by
  have h0 := Tt a
  rw [h] at h0
  unfold pW at h0
  generalize hc : (decide (((a.length : Int) : Int) = 0) || decide ((4 : Int) < (a.length : Int))) = C at h0
  cases C with
  | true => cases h0
  | false =>
    simp only [Bool.or_eq_false_iff, decide_eq_false_iff_not] at hc
    have h1 : dU iV (lG a) 0 a () = _ := G5 (lG a) a 0
    rw [cond_false, h1] at h0
    by_cases hz : heads 0 a = 0
    · rw [if_neg (by omega)] at h0
      have hb := OI a a h0
      refine ⟨by omega, fun i x hx => ?_, fun x hx => (hb x hx).1, fun x hx => (hb x hx).2⟩
      have := Jc a 0 hz i x hx
      rw [Nat.zero_add] at this
      unfold xz at this
      split at this
      · rename_i g
        split at this
        · rename_i g2; exact ⟨g.1, g.2.1, g.2.2, g2⟩
        · cases this
      · cases this
    · rw [if_pos hz] at h0
      exact absurd (Option.some.inj h0) hz
end Go.Proofs.YtfclkapelkhlpaaGreatDoor
namespace Go.Proofs.YtfclkapelkhlpaaGreatDoor
open Go Go.Proofs Go.LX
theorem gU {α σ ρ : Type} {body : Int → α → σ → (σ → ρ) → ρ} {k : σ → ρ} (i : Int) (x : α) (l : List α) (s : σ) : dU body k i (x :: l) s = body i x s (dU body k (i + 1) l) := rfl
theorem Jd {σ ρ : Type} {body : Int → σ → (σ → ρ) → ρ} {k : σ → ρ} (i : Int) (m : Nat) (s : σ) : upto body k i (m + 1) s = body i s (upto body k (i + 1) m) := rfl
theorem U4 {σ β : Type} {body : σ → (σ → Option β) → Option β} {m : Nat} {s : σ} : again body (m + 1) s = body s (again body m) := rfl
def jH (n : Nat) (v : Val) : Prop := (v.kind = 0 ∧ v.n = 0) ∨ (v.kind = 1 ∧ -1000000000 ≤ v.n ∧ v.n ≤ 1000000000) ∨ (v.kind = 2 ∧ 0 ≤ v.n ∧ v.n < n)
instance (n : Nat) (v : Val) : Decidable (jH n v) := inferInstanceAs (Decidable (_ ∨ _))
theorem Am (n : Nat) (v : Val) : df v (n : Int) = 0 ↔ jH n v := by
  obtain ⟨k, m⟩ := v
  simp only [df, jH, Bool.cond_eq_ite, Bool.or_eq_true, decide_eq_true_eq]
  constructor
  · intro h
    (repeat' split at h) <;> first | omega | (exfalso; omega)
  · intro h
    rcases h with ⟨h1, h2⟩ | ⟨h1, h2⟩ | ⟨h1, h2⟩
    · rw [if_pos h1, if_neg (by omega)]
    · rw [if_neg (by omega), if_pos h1, if_neg (by omega)]
    · rw [if_neg (by omega), if_neg (by omega), if_pos h1, if_neg (by omega)]
theorem LJ (v : Val) (n : Int) : dR v n = df v n := by
  obtain ⟨k, m⟩ := v
  simp only [df, dR, l7, bC, fC, aY, Bool.cond_eq_ite, Bool.or_eq_true, Bool.and_eq_true, Bool.not_eq_true', decide_eq_true_eq, decide_eq_false_iff_not, Bool.and_eq_false_iff]
  (repeat' split) <;> first | rfl | (exfalso; omega)
def ow (l : List (List Val)) : Prop := l.length ≤ 24 ∧ ∀ c ∈ l, (1 ≤ c.length ∧ c.length ≤ 4) ∧ ∀ v ∈ c, jH l.length v
theorem LK (a : List (List Val)) : kz a = dL a := by
  unfold kz dL
  have k1 : ∀ (l : List Val) (f : Unit → Int), each (jq a) (jr f) l () = each (gX a) (gG f) l () := by
    intro l f
    induction l with
    | nil => rfl
    | cons x l ih =>
      show (bif decide ((dR x (a.length : Int) : Int) ≠ 0) then dR x (a.length : Int) else each (jq a) (jr f) l ()) = (bif decide ((df x (a.length : Int) : Int) ≠ 0) then df x (a.length : Int) else each (gX a) (gG f) l ())
      rw [LJ, ih]
  have k2 : ∀ l : List (List Val), each (jv a) jw l () = each (iT a) gY l () := by
    intro l
    induction l with
    | nil => rfl
    | cons x l ih =>
      show (bif (!(bC (x.length : Int) 1 4)) then 2 else each (jq a) (jr (each (jv a) jw l)) x ()) = (bif (decide (((x.length : Int) : Int) = 0) || decide ((4 : Int) < (x.length : Int))) then 2 else each (gX a) (gG (each (iT a) gY l)) x ())
      have e : (!(bC (x.length : Int) 1 4)) = (decide (((x.length : Int) : Int) = 0) || decide ((4 : Int) < (x.length : Int))) := by
        unfold bC; rw [Bool.eq_iff_iff]; simp only [Bool.or_eq_true, Bool.not_eq_true', Bool.and_eq_false_iff, decide_eq_true_eq, decide_eq_false_iff_not]; omega
      rw [e, k1]
      have : each (jv a) jw l = each (iT a) gY l := by funext u; exact ih
      rw [this]
  rw [k2]
theorem NH (a : List (List Val)) : dL a = 0 ↔ ow a := by
  have k1 : ∀ (l : List Val) (f : Unit → Int), each (gX a) (gG f) l () = 0 ↔ (∀ v ∈ l, jH a.length v) ∧ f () = 0 := by
    intro l f
    induction l with
    | nil => simp [iw, gG]
    | cons x l ih =>
      show (bif decide ((df x (a.length : Int) : Int) ≠ 0) then df x (a.length : Int) else each (gX a) (gG f) l ()) = 0 ↔ _
      by_cases h : df x (a.length : Int) = 0
      · rw [dF (by omega), cond_false, ih]
        have := (Am _ _).1 h
        simp [this]
      · rw [dT h, cond_true]
        have h2 : ¬ jH a.length x := fun e => h ((Am _ _).2 e)
        simp [h, h2]
  have k2 : ∀ l : List (List Val), each (iT a) gY l () = 0 ↔ ∀ c ∈ l, (1 ≤ c.length ∧ c.length ≤ 4) ∧ ∀ v ∈ c, jH a.length v := by
    intro l
    induction l with
    | nil => simp [iw, gY]
    | cons x l ih =>
      show (bif (decide (((x.length : Int) : Int) = 0) || decide ((4 : Int) < (x.length : Int))) then 2 else each (gX a) (gG (each (iT a) gY l)) x ()) = 0 ↔ _
      by_cases h : 1 ≤ x.length ∧ x.length ≤ 4
      · rw [show (decide (((x.length : Int) : Int) = 0) || decide ((4 : Int) < (x.length : Int))) = false by simp only [Bool.or_eq_false_iff, decide_eq_false_iff_not]; omega, cond_false, k1, ih]
        simp [h]
      · rw [show (decide (((x.length : Int) : Int) = 0) || decide ((4 : Int) < (x.length : Int))) = true by simp only [Bool.or_eq_true, decide_eq_true_eq]; omega, cond_true]
        simp [h]
  unfold dL ow
  by_cases h : a.length ≤ 24
  · rw [dF (by omega), cond_false, k2]; simp [h]
  · rw [dT (by omega), cond_true]; simp [h]
structure Ao (a : List dx) (n : Nat) (f : LX.Frame) (x : dx) : Prop where
  proc : idx a f.proc = some x
  at_ : 0 ≤ f.at_ ∧ f.at_ < x.code.length
  regs : (f.regs.length : Int) = x.regs
  vals : ∀ v ∈ f.regs, jH n v
def jy (a : List dx) (n : Nat) : Int → List LX.Frame → Prop
  | _, [] => True
  | ahead, f :: l => (∃ x, Ao a n f x) ∧ (0 ≤ f.kG ∧ f.kG < ahead) ∧ jy a n f.regs.length l
structure Ib (a : List dx) (s : LX.State) : Prop where
  status : 0 ≤ s.status ∧ s.status ≤ 3
  aV : -1000000000 ≤ s.aV ∧ s.aV ≤ 1000000000
  stay : s.status ≠ 3 → s.aV = 0
  ended : s.status = 1 ↔ s.frames = []
  many : s.frames.length ≤ 10
  cells : ow s.cells
  frames : jy a s.cells.length 1 s.frames
end Go.Proofs.YtfclkapelkhlpaaGreatDoor
namespace Go.Proofs.YtfclkapelkhlpaaGreatDoor
open Go Go.Proofs Go.LX
def ahead (pre : List LX.Frame) : Int := match pre.getLast? with | none => 1 | some f => f.regs.length
theorem Je : ahead [] = 1 := rfl
theorem G8 (pre : List LX.Frame) (f : LX.Frame) : ahead (pre ++ [f]) = f.regs.length := by simp [ahead]
theorem EF (b : LX.State) (f : LX.Frame) (n1 : Unit → Option Int) (n2 : Int → Option Int) (hn : n1 () = n2 f.regs.length) : ∀ l : List Val, each (mo b) (mq n1) l () = each (lK b) (lL n2 f) l ()
  | [] => hn
  | x :: l => by
    show (bif decide ((df x (b.cells.length : Int) : Int) ≠ 0) then some (df x (b.cells.length : Int)) else each (mo b) (mq n1) l ()) = (bif decide ((dR x (b.cells.length : Int) : Int) ≠ 0) then some (dR x (b.cells.length : Int)) else each (lK b) (lL n2 f) l ())
    rw [LJ, EF b f n1 n2 hn l]
theorem LM (b : LX.State) (n1 : Unit → Option Int) (Q : Prop) (hn : ∃ y, n1 () = some y ∧ (y = 0 ↔ Q)) : ∀ l : List Val, ∃ y, each (mo b) (mq n1) l () = some y ∧ (y = 0 ↔ (∀ v ∈ l, jH b.cells.length v) ∧ Q)
  | [] => by obtain ⟨y, h1, h2⟩ := hn; exact ⟨y, h1, by simp [h2]⟩
  | x :: l => by
    obtain ⟨y, h1, h2⟩ := LM b n1 Q hn l
    have e : each (mo b) (mq n1) (x :: l) () = (bif decide ((df x (b.cells.length : Int) : Int) ≠ 0) then some (df x (b.cells.length : Int)) else each (mo b) (mq n1) l ()) := rfl
    rw [e]
    by_cases h : df x (b.cells.length : Int) = 0
    · rw [dF (by omega), cond_false]
      have := (Am _ _).1 h
      exact ⟨y, h1, by rw [h2]; simp [this]⟩
    · rw [dT h, cond_true]
      refine ⟨_, rfl, ?_⟩
      have h3 : ¬ jH b.cells.length x := fun e => h ((Am _ _).2 e)
      simp [h, h3]
theorem ET (a : List dx) (b : LX.State) (hm : b.frames.length ≤ 10) : ∀ (l pre : List LX.Frame), b.frames = pre ++ l →
    dU (qy a b) sN (pre.length : Int) l () = each (eX a b) iH l (ahead pre)
  | [], pre, h => rfl
  | f :: l, pre, h => by
    have ih := ET a b hm l (pre ++ [f]) (by simpa using h)
    rw [G8] at ih
    have hi : (((pre ++ [f]).length : Nat) : Int) = (pre.length : Int) + 1 := by simp
    rw [hi] at ih
    rw [gU, dW]
    generalize dU (qy a b) sN ((pre.length : Int) + 1) l = K1 at ih ⊢
    generalize each (eX a b) iH l = K2 at ih ⊢
    unfold qy eX
    have hl : pre.length ≤ 10 := by have := congrArg List.length h; simp at this; omega
    have e1 : (decide ((f.proc : Int) < 0) || decide (((a.length : Int) : Int) ≤ f.proc)) = !aY f.proc (a.length : Int) := Dc _ _
    rw [e1]
    cases hp : aY f.proc (a.length : Int) with
    | false => rfl
    | true =>
      simp only [Bool.not_true, cond_false]
      cases hx : idx a f.proc with
      | none => rfl
      | some x =>
        simp only [bnd]
        cases ha : aY f.at_ (x.code.length : Int) with
        | false =>
          rw [show (((decide ((f.at_ : Int) < 0) || decide (((x.code.length : Int) : Int) ≤ f.at_)) || decide ((f.kG : Int) < 0)) || (decide ((pre.length : Int) = 0) && decide ((f.kG : Int) ≠ 0))) = true by
            have := Dc f.at_ (x.code.length : Int)
            rw [ha] at this
            rw [this]; rfl]
          rfl
        | true =>
          have h3 := Dc f.at_ (x.code.length : Int)
          rw [ha] at h3
          rw [h3]
          simp only [Bool.not_true, Bool.false_or, cond_false]
          have key : ∀ t, qx f x b K1 t = gq a f b K2 t := by
            intro t
            unfold qx gq
            rw [hx, bnd, EF b f _ _ ih]
          simp only [key]
          rcases List.eq_nil_or_concat pre with rfl | ⟨q, g, rfl⟩
          · rw [Je]
            by_cases ht : f.kG = 0
            · rw [show (decide ((f.kG : Int) < 0) || (decide ((([] : List LX.Frame).length : Int) = 0) && decide ((f.kG : Int) ≠ 0))) = false by simp [ht], cond_false, dF (by simp), cond_false, show (!aY f.kG 1) = false by simp [ht, aY]]
            · rw [show (decide ((f.kG : Int) < 0) || (decide ((([] : List LX.Frame).length : Int) = 0) && decide ((f.kG : Int) ≠ 0))) = true by simp [ht], cond_true, show (!aY f.kG 1) = true by simp [aY]; omega]
          · rw [List.concat_eq_append] at *
            rw [G8]
            have hlen : ((q ++ [g]).length : Int) = (q.length : Int) + 1 := by simp
            rw [hlen, show (decide ((q.length : Int) + 1 = 0)) = false from dF (by omega), Bool.false_and, Bool.or_false]
            by_cases ht : f.kG < 0
            · rw [dT ht, cond_true, show (!aY f.kG (g.regs.length : Int)) = true by simp [aY]; omega]
            · rw [dF ht, cond_false, dT (by omega), cond_true, gI (by omega) (by simp at hl; omega), show (q.length : Int) + 1 - 1 = ((q.length : Nat) : Int) by omega, ql, h]
              simp only [List.append_assoc, List.getElem?_append_right (Nat.le_refl _), Nat.sub_self, List.cons_append, List.nil_append, List.getElem?_cons_zero, bnd]
              congr 1
              rw [Bool.eq_iff_iff]; simp [aY]; omega
theorem G9 (a : List dx) (b : LX.State) : wB a b = ou a b := by
  unfold wB ou
  have e1 : (((decide ((b.status : Int) < 0) || decide ((3 : Int) < b.status)) || decide ((b.aV : Int) < -1000000000)) || decide ((1000000000 : Int) < b.aV)) = ((!(bC b.status 0 3)) || (!(fC b.aV))) := by
    unfold fC bC; rw [Bool.eq_iff_iff]; simp only [Bool.or_eq_true, Bool.not_eq_true', Bool.and_eq_false_iff, decide_eq_true_eq, decide_eq_false_iff_not]; omega
  have e2 : ((decide ((b.status : Int) ≠ 3) && decide ((b.aV : Int) ≠ 0)) || (decide ((b.status : Int) = 1) != decide (((b.frames.length : Int) : Int) = 0))) = (((decide ((b.aV : Int) ≠ 0) && decide ((b.status : Int) ≠ 3)) || (decide ((b.status : Int) = 1) && decide ((0 : Int) < (b.frames.length : Int)))) || (decide ((b.status : Int) ≠ 1) && decide (((b.frames.length : Int) : Int) = 0))) := by
    by_cases h1 : b.status = 1 <;> by_cases h2 : b.frames.length = 0 <;> by_cases h3 : b.status = 3 <;> by_cases h4 : b.aV = 0 <;> simp [h1, h2, h3, h4] <;> omega
  rw [e1, e2, LK]
  by_cases h : b.frames.length ≤ 10
  · have := ET a b h b.frames [] rfl
    rw [Je] at this
    rw [← this]; rfl
  · rw [show (decide ((10 : Int) < (b.frames.length : Int))) = true from dT (by omega)]
    rfl
theorem Ha (a : List dx) (b : LX.State) : ∀ (l : List LX.Frame) (t : Int), ∃ y, each (eX a b) iH l t = some y ∧ (y = 0 ↔ jy a b.cells.length t l)
  | [], t => ⟨0, rfl, by simp [jy]⟩
  | f :: l, t => by
    obtain ⟨y, h1, h2⟩ := Ha a b l f.regs.length
    rw [dW]
    generalize each (eX a b) iH l = K2 at h1 ⊢
    unfold eX
    cases hp : aY f.proc (a.length : Int) with
    | false =>
      refine ⟨5, rfl, ?_⟩
      have : ¬ jy a b.cells.length t (f :: l) := by
        rintro ⟨⟨x, g⟩, -, -⟩
        have := aI g.proc
        have h3 := (List.getElem?_eq_some_iff.1 this.2).1
        unfold aY at hp
        simp only [Bool.and_eq_false_iff, decide_eq_false_iff_not] at hp
        omega
      simp [this]
    | true =>
      unfold aY at hp
      simp only [Bool.and_eq_true, decide_eq_true_eq] at hp
      simp only [Bool.not_true, cond_false]
      obtain ⟨n, hn⟩ := Int.eq_ofNat_of_zero_le hp.1
      have hx : idx a f.proc = some (a[n]'(by omega)) := by rw [hn, zI (by omega)]
      generalize a[n]'(by omega) = x at hx
      rw [hx, bnd]
      have kB : ∃ y, gq a f b K2 true = some y ∧ y ≠ 0 := ⟨3, rfl, by decide⟩
      have uniq : ∀ z, Ao a b.cells.length f z → z = x := fun z g => by have := g.proc; rw [hx] at this; exact (Option.some.inj this).symm
      cases ha : aY f.at_ (x.code.length : Int) with
      | false =>
        obtain ⟨y, g1, g2⟩ := kB
        refine ⟨y, g1, ?_⟩
        have : ¬ jy a b.cells.length t (f :: l) := by
          rintro ⟨⟨z, g⟩, -, -⟩
          have := uniq z g; subst this
          have := g.at_
          unfold aY at ha
          simp only [Bool.and_eq_false_iff, decide_eq_false_iff_not] at ha
          omega
        simp [this, g2]
      | true =>
        simp only [Bool.not_true, cond_false]
        cases ht : aY f.kG t with
        | false =>
          obtain ⟨y, g1, g2⟩ := kB
          refine ⟨y, g1, ?_⟩
          have : ¬ jy a b.cells.length t (f :: l) := by
            rintro ⟨⟨z, g⟩, h3, -⟩
            unfold aY at ht
            simp only [Bool.and_eq_false_iff, decide_eq_false_iff_not] at ht
            omega
          simp [this, g2]
        | true =>
          simp only [Bool.not_true]
          unfold gq
          rw [hx, cond_false, bnd]
          unfold aY at ha ht
          simp only [Bool.and_eq_true, decide_eq_true_eq] at ha ht
          by_cases hr : (f.regs.length : Int) = x.regs
          · rw [dF (by omega), cond_false, ← EF b f (fun _ => K2 f.regs.length) _ rfl]
            obtain ⟨z, g1, g2⟩ := LM b (fun _ => K2 f.regs.length) _ ⟨y, h1, h2⟩ f.regs
            refine ⟨z, g1, g2.trans ⟨fun h => ⟨⟨x, hx, ha, hr, h.1⟩, ht, h.2⟩, ?_⟩⟩
            rintro ⟨⟨z, g⟩, h3, h4⟩
            exact ⟨g.vals, h4⟩
          · rw [dT (by omega), cond_true]
            refine ⟨4, rfl, ?_⟩
            have : ¬ jy a b.cells.length t (f :: l) := by
              rintro ⟨⟨z, g⟩, -, -⟩
              have := uniq z g; subst this
              exact hr g.regs
            simp [this]
theorem Hd (a : List dx) (b : LX.State) : ∃ y, wB a b = some y ∧ (y = 0 ↔ Ib a b) := by
  rw [G9]
  unfold ou
  cases c1 : ((!(bC b.status 0 3)) || (!(fC b.aV))) with
  | true =>
    refine ⟨3, rfl, ⟨fun h => absurd h (by decide), fun h => ?_⟩⟩
    unfold fC bC at c1
    simp only [Bool.or_eq_true, Bool.not_eq_true', Bool.and_eq_false_iff, decide_eq_false_iff_not] at c1
    have := h.status; have := h.aV; omega
  | false =>
    unfold fC bC at c1
    simp only [Bool.or_eq_false_iff, Bool.not_eq_false', Bool.and_eq_true, decide_eq_true_eq] at c1
    rw [cond_false]
    cases c2 : (((decide ((b.aV : Int) ≠ 0) && decide ((b.status : Int) ≠ 3)) || (decide ((b.status : Int) = 1) && decide ((0 : Int) < (b.frames.length : Int)))) || (decide ((b.status : Int) ≠ 1) && decide (((b.frames.length : Int) : Int) = 0))) with
    | true =>
      refine ⟨4, rfl, ⟨fun h => absurd h (by decide), fun h => ?_⟩⟩
      simp only [Bool.or_eq_true, Bool.and_eq_true, decide_eq_true_eq] at c2
      rcases c2 with (c2 | c2) | c2
      · exact absurd (h.stay c2.2) c2.1
      · have := h.ended.1 c2.1; rw [this] at c2; simp at c2
      · exact absurd (h.ended.2 (List.eq_nil_of_length_eq_zero (by omega))) c2.1
    | false =>
      simp only [Bool.or_eq_false_iff, Bool.and_eq_false_iff, decide_eq_false_iff_not] at c2
      rw [cond_false]
      by_cases hm : b.frames.length ≤ 10
      · rw [dF (by omega), cond_false, LK]
        by_cases hc : dL b.cells = 0
        · rw [dF (by omega), cond_false]
          obtain ⟨y, h1, h2⟩ := Ha a b b.frames 1
          refine ⟨y, h1, h2.trans ⟨fun h => ⟨by omega, by omega, fun h3 => by omega, ⟨fun h3 => ?_, fun h3 => ?_⟩, hm, (NH _).1 hc, h⟩, fun h => h.frames⟩⟩
          · exact List.eq_nil_of_length_eq_zero (by omega)
          · rw [h3] at c2; simp at c2; omega
        · rw [dT hc, cond_true]
          exact ⟨_, rfl, ⟨fun h => absurd h hc, fun h => absurd ((NH _).2 h.cells) hc⟩⟩
      · rw [dT (by omega), cond_true]
        exact ⟨2, rfl, ⟨fun h => absurd h (by decide), fun h => absurd h.many hm⟩⟩
def Yz (a : List dx) (s : LX.State) : Int := (wB a s).getD 0
theorem XX (a : List dx) (s : LX.State) : wB a s = some (Yz a s) := by obtain ⟨y, h, -⟩ := Hd a s; unfold Yz; rw [h]; rfl
theorem Tv {a : List dx} {s : LX.State} : Yz a s = 0 ↔ Ib a s := by obtain ⟨y, h, h2⟩ := Hd a s; unfold Yz; rw [h]; exact h2
theorem EU (a : List dx) (s : LX.State) : uI a s = some (if XW a ≠ 0 then XW a else Yz a s) := by
  unfold uI
  rw [Tt, bnd]
  by_cases h : XW a = 0
  · rw [dF (by omega), cond_false, XX, bnd, if_neg (by omega)]
  · rw [dT h, cond_true, if_pos h]
end Go.Proofs.YtfclkapelkhlpaaGreatDoor
namespace Go.Proofs.YtfclkapelkhlpaaGreatDoor
open Go Go.Proofs Go.LX
theorem Tw (a b : List Val) : jL a b = some (decide (a = b)) := by
  unfold jL
  by_cases h : a.length = b.length
  · rw [dF (by omega)]
    simp only [cond_false, Int.toNat_natCast]
    rw [O1 (fun x y => decide (x = y)) a b h rfl (fun i x y nx h1 h2 => by
      unfold lS
      rw [ql, ql, h1, h2]
      obtain ⟨k, n⟩ := x; obtain ⟨k2, n2⟩ := y
      by_cases e : k = k2 <;> by_cases e2 : n = n2 <;> simp [e, e2]), Fq (fun _ _ => rfl)]
  · rw [dT (by omega)]
    have : a ≠ b := fun e => h (by rw [e])
    rw [dF this]; rfl
theorem U5 (a b : List (List Val)) : Bc a b = some (decide (a = b)) := by
  unfold Bc
  by_cases h : a.length = b.length
  · rw [dF (by omega), cond_false, FO (fun x y => decide (x = y)) a b h rfl (fun i x y nx h2 => by
      unfold vO
      rw [ql, h2, bnd, Tw, bnd]
      by_cases e : x = y <;> simp [e]), Fq (fun _ _ => rfl)]
  · rw [dT (by omega)]
    have : a ≠ b := fun e => h (by rw [e])
    rw [dF this]; rfl
theorem fr_eq (x y : LX.Frame) (nx : Unit → Option Bool) : (bif ((decide ((x.proc : Int) = y.proc) && decide ((x.at_ : Int) = y.at_)) && decide ((x.kG : Int) = y.kG)) then (jL x.regs y.regs).bind fun y39 => rM nx (!y39) else rM nx true) = bif decide (x = y) then nx () else some false := by
  obtain ⟨p, t, r, o⟩ := x; obtain ⟨p2, t2, r2, o2⟩ := y
  simp only [Tw, bnd, rM]
  by_cases e1 : p = p2 <;> by_cases e2 : t = t2 <;> by_cases e3 : r = r2 <;> by_cases e4 : o = o2 <;> simp [e1, e2, e3, e4]
theorem st_eq (a b : LX.State) : decide (a = b) = ((decide (a.status = b.status) && decide (a.aV = b.aV)) && (decide (a.cells = b.cells) && decide (a.frames = b.frames))) := by
  obtain ⟨f, c, s, w⟩ := a; obtain ⟨f2, c2, s2, w2⟩ := b
  rw [Bool.eq_iff_iff]; simp; constructor <;> (intro h; simp [h])
theorem U6 (a b : LX.State) : FD a b = some (decide (a = b)) := by
  rw [st_eq]
  unfold FD
  cases (decide ((a.status : Int) = b.status) && decide ((a.aV : Int) = b.aV)) with
  | false => rfl
  | true =>
    rw [cond_true, U5, bnd]
    cases decide (a.cells = b.cells) with
    | false => rfl
    | true =>
      rw [cond_true]
      by_cases h : a.frames.length = b.frames.length
      · rw [dF (by omega), cond_false, FO (fun x y => decide (x = y)) a.frames b.frames h rfl (fun i x y nx h2 => by
          unfold wZ
          rw [ql, h2, bnd]
          exact fr_eq x y nx), Fq (fun _ _ => rfl)]; rfl
      · rw [dT (by omega)]
        have : a.frames ≠ b.frames := fun e => h (by rw [e])
        rw [dF this]; rfl
structure Small (s : LX.State) : Prop where
  frames : s.frames.length ≤ 10
  regs : ∀ f ∈ s.frames, f.regs.length ≤ 40
  cells : s.cells.length ≤ 24
  fields : ∀ c ∈ s.cells, c.length ≤ 4
theorem sU {a : List dx} {n : Nat} : ∀ {l : List LX.Frame} {t : Int}, jy a n t l → ∀ f ∈ l, ∃ x, Ao a n f x
  | [], _, _, f, hf => by cases hf
  | g :: l, t, h, f, hf => by
    rcases List.mem_cons.1 hf with rfl | hf
    · exact h.1
    · exact sU h.2.2 f hf
theorem Al.mem {a : List dx} (h : Al a) {k : Int} {x : dx} (hx : idx a k = some x) : x ∈ a ∧ (0 ≤ x.params ∧ x.params ≤ 3) ∧ (1 ≤ x.regs ∧ x.params ≤ x.regs ∧ x.regs ≤ 40) ∧ ui x := by
  have h1 := (aI hx).2
  have := h.head _ x h1
  exact ⟨List.mem_of_getElem? h1, this.1, this.2.1, this.2.2.2⟩
theorem Ib.small {a : List dx} {s : LX.State} (h : Ib a s) (ha : Al a) : Small s where
  frames := h.many
  regs f hf := by
    obtain ⟨x, g⟩ := sU h.frames f hf
    have := (ha.mem g.proc).2.2.1
    have := g.regs
    omega
  cells := h.cells.1
  fields c hc := (h.cells.2 c hc).1.2
theorem De {α : Type} {bytes : Nat} {a : List α} (h : a.length ≤ 400) (hb : bytes ≤ 48) : clone bytes a = some a := by
  have : a.length * bytes ≤ 400 * 48 := Nat.mul_le_mul h hb
  unfold clone
  exact FN ⟨by simp; omega, by simp; omega⟩
theorem EG {ρ : Type} {body : Int → Unit → (Unit → ρ) → ρ} {k : Unit → ρ} : ∀ (m : Nat) (i : Nat), (∀ j : Nat, i ≤ j → j < i + m → ∀ nx, body (j : Int) () nx = nx ()) → upto body k (i : Int) m () = k ()
  | 0, i, _ => rfl
  | m + 1, i, h => by
    rw [Jd, h i (Nat.le_refl _) (by omega), show ((i : Int) + 1) = ((i + 1 : Nat) : Int) by omega]
    exact EG m (i + 1) (fun j h1 h2 => h j (by omega) (by omega))
theorem LP {l : List (List Val)} (h : l.length ≤ 24) (hf : ∀ c ∈ l, c.length ≤ 4) : AQ l = some l := by
  unfold AQ
  rw [De (by omega) (by decide), bnd, Int.toNat_natCast]
  exact EG (k := vK l) l.length 0 (fun j h1 h2 nx => by
    unfold vJ
    rw [zI (by omega), bnd, De (by have := hf _ (List.getElem_mem (by omega : j < l.length)); omega) (by decide), bnd])
theorem copy_eq {s : LX.State} (h : Small s) : za s = some s := by
  unfold za
  rw [De (by have := h.frames; omega) (by decide), bnd, LP h.cells h.fields, bnd]
  unfold BN
  rw [Int.toNat_natCast]
  exact EG (k := y5 s s.cells) s.frames.length 0 (fun j h1 h2 nx => by
    unfold yZ
    rw [zI (by omega), bnd, De (by have := h.regs _ (List.getElem_mem (by omega : j < s.frames.length)); omega) (by decide), bnd])
theorem room_le {α : Type} {bytes : Nat} {l m : List α} (h : l.length + m.length ≤ 100000) (hb : bytes ≤ 48) : Room bytes l m := by
  have : (l.length + m.length) * bytes ≤ 100000 * 48 := Nat.mul_le_mul h hb
  exact ⟨by omega, by omega⟩
end Go.Proofs.YtfclkapelkhlpaaGreatDoor
namespace Go.Proofs.YtfclkapelkhlpaaGreatDoor
open Go Go.Proofs Go.LX
def Df (l : List Int) (v : Val) : List Int := if v.kind = 2 ∧ v.n ∉ l then l ++ [v.n] else l
def Dh (l : List Int) (vs : List Val) : List Int := vs.foldl Df l
def cellAt (cells : List (List Val)) (k : Int) : List Val := (idx cells k).getD []
def Ic (cells : List (List Val)) : Nat → Nat → List Int → List Int
  | 0, _, l => l
  | m + 1, k, l => if h : k < l.length then Ic cells m (k + 1) (Dh l (cellAt cells l[k])) else l
def Ap (cells : List (List Val)) (vs : List Val) : List Int := Ic cells 25 0 (Dh [] vs)
theorem Bd (l : List Int) (v : Val) (vs : List Val) : Dh l (v :: vs) = Dh (Df l v) vs := rfl
theorem Tx (l : List Int) (v : Val) : l <+: Df l v := by
  unfold Df; split
  · exact List.prefix_append _ _
  · exact List.prefix_refl _
theorem Aq : ∀ (vs : List Val) (l : List Int), l <+: Dh l vs
  | [], l => List.prefix_refl _
  | v :: vs, l => (Tx l v).trans (Aq vs _)
theorem OJ (cells : List (List Val)) : ∀ (m k : Nat) (l : List Int), l <+: Ic cells m k l
  | 0, _, l => List.prefix_refl _
  | m + 1, k, l => by
    unfold Ic; split
    · exact (Aq _ _).trans (OJ cells m _ _)
    · exact List.prefix_refl _
theorem Jf : ∀ (n : Nat) (l : List Int), l.Nodup → (∀ x ∈ l, 0 ≤ x ∧ x < n) → l.length ≤ n
  | 0, l, _, h => by
    cases l with
    | nil => simp
    | cons x l => have := h x (by simp); omega
  | n + 1, l, hn, h => by
    have h1 := Jf n (l.erase (n : Int)) (hn.erase _) (fun x hx => by
      have h2 := (hn.mem_erase_iff).1 hx
      have := h x h2.2
      have h3 := h2.1
      constructor
      · omega
      · push_cast at this; omega)
    have h4 : l.length ≤ (l.erase (n : Int)).length + 1 := by rw [List.length_erase]; split <;> omega
    omega
def pF (n : Nat) (l : List Int) : Prop := l.Nodup ∧ ∀ x ∈ l, 0 ≤ x ∧ x < n
theorem pF.len {n : Nat} {l : List Int} (h : pF n l) : l.length ≤ n := Jf n l h.1 h.2
theorem pF.nil {n : Nat} : pF n [] := ⟨List.nodup_nil, fun x hx => by cases hx⟩
theorem jH.ref {n : Nat} {v : Val} (h : jH n v) (hk : v.kind = 2) : 0 ≤ v.n ∧ v.n < n := by unfold jH at h; omega
theorem pF.v {n : Nat} {l : List Int} (h : pF n l) {v : Val} (hv : jH n v) : pF n (Df l v) := by
  unfold Df; split
  · rename_i hc
    refine ⟨List.nodup_append.2 ⟨h.1, by simp, fun a ha b hb => ?_⟩, fun x hx => ?_⟩
    · simp at hb; subst hb; intro e; subst e; exact hc.2 ha
    · rcases List.mem_append.1 hx with hx | hx
      · exact h.2 x hx
      · simp at hx; subst hx; exact hv.ref hc.1
  · exact h
theorem pF.l {n : Nat} : ∀ {vs : List Val} {l : List Int}, pF n l → (∀ v ∈ vs, jH n v) → pF n (Dh l vs)
  | [], l, h, _ => h
  | v :: vs, l, h, hv => pF.l (vs := vs) (l := Df l v) (h.v (hv v (by simp))) (fun w hw => hv w (List.mem_cons_of_mem _ hw))
theorem wI {cells : List (List Val)} {k : Int} (h : 0 ≤ k ∧ k < cells.length) : idx cells k = some (cellAt cells k) ∧ cellAt cells k ∈ cells := by
  obtain ⟨n, rfl⟩ := Int.eq_ofNat_of_zero_le h.1
  unfold cellAt
  rw [zI (by omega)]
  exact ⟨rfl, List.getElem_mem _⟩
theorem ow.at {cells : List (List Val)} (h : ow cells) {k : Int} (hk : 0 ≤ k ∧ k < cells.length) : (1 ≤ (cellAt cells k).length ∧ (cellAt cells k).length ≤ 4) ∧ ∀ v ∈ cellAt cells k, jH cells.length v := h.2 _ (wI hk).2
theorem pF.Ic {cells : List (List Val)} (hc : ow cells) : ∀ {m k : Nat} {l : List Int}, pF cells.length l → pF cells.length (Ic cells m k l)
  | 0, _, l, h => h
  | m + 1, k, l, h => by
    unfold Proofs.YtfclkapelkhlpaaGreatDoor.Ic; split
    · rename_i hk
      exact pF.Ic hc (h.l (hc.at (h.2 _ (List.getElem_mem hk))).2)
    · exact h
def jT (vs : List Val) (l : List Int) : Prop := ∀ v ∈ vs, v.kind = 2 → v.n ∈ l
theorem jT.pre {vs : List Val} {l m : List Int} (h : jT vs l) (hp : l <+: m) : jT vs m := fun v hv hk => hp.subset (h v hv hk)
theorem U7 (l : List Int) (v : Val) (hk : v.kind = 2) : v.n ∈ Df l v := by
  unfold Df; split
  · simp
  · rename_i hc
    exact Decidable.not_not.1 (fun h => hc ⟨hk, h⟩)
theorem Ke : ∀ (vs : List Val) (l : List Int), jT vs (Dh l vs)
  | [], l, v, hv, _ => by cases hv
  | w :: vs, l, v, hv, hk => by
    rw [Bd]
    rcases List.mem_cons.1 hv with rfl | hv
    · exact (Aq vs _).subset (U7 l v hk)
    · exact Ke vs _ v hv hk
theorem Ty {cells : List (List Val)} (hc : ow cells) : ∀ {m k : Nat} {l : List Int}, pF cells.length l → cells.length < k + m → (∀ j (hj : j < l.length), j < k → jT (cellAt cells l[j]) l) → ∀ x ∈ Ic cells m k l, jT (cellAt cells x) (Ic cells m k l)
  | 0, k, l, h, hm, hj, x, hx => by
    have := h.len
    obtain ⟨j, h1, rfl⟩ := List.getElem_of_mem hx
    exact hj j h1 (by have h1' : j < l.length := h1; omega)
  | m + 1, k, l, h, hm, hj, x, hx => by
    unfold Proofs.YtfclkapelkhlpaaGreatDoor.Ic at hx ⊢
    split at hx
    · rename_i hk
      rw [dif_pos hk]
      have hv := (hc.at (h.2 _ (List.getElem_mem hk))).2
      have hp := Aq (cellAt cells l[k]) l
      refine Ty hc (h.l hv) (by omega) (fun j h1 h2 => ?_) x hx
      by_cases e : j < l.length
      · have e1 : (Dh l (cellAt cells l[k]))[j] = l[j] := (hp.getElem e).symm
        rw [e1]
        by_cases e2 : j < k
        · exact (hj j e e2).pre hp
        · have : j = k := by omega
          subst this
          exact Ke _ _
      · omega
    · rename_i hk
      rw [dif_neg hk]
      obtain ⟨j, h1, rfl⟩ := List.getElem_of_mem hx
      exact hj j h1 (by omega)
theorem Tz {cells : List (List Val)} (hc : ow cells) {vs : List Val} (hv : ∀ v ∈ vs, jH cells.length v) : pF cells.length (Ap cells vs) ∧ jT vs (Ap cells vs) ∧ ∀ x ∈ Ap cells vs, jT (cellAt cells x) (Ap cells vs) := by
  have h0 : pF cells.length (Dh [] vs) := pF.nil.l hv
  refine ⟨pF.Ic hc h0, (Ke vs []).pre (OJ _ _ _ _), Ty hc h0 (by have := hc.1; omega) (fun j h1 h2 => absurd h2 (Nat.not_lt_zero _))⟩
theorem Kg {α : Type} (k k' : Int) (v : α) : ∀ l : List (Int × α), lk k (yL k' v l) = if k = k' then some v else lk k l
  | [] => by unfold yL lk; by_cases h : k = k' <;> simp [h, lk]
  | p :: l => by
    unfold yL
    by_cases h : k' = p.1
    · rw [if_pos h]
      show (if k = p.1 then some v else lk k l) = if k = k' then some v else (if k = p.1 then some p.2 else lk k l)
      by_cases e : k = p.1
      · rw [if_pos e, if_pos (by omega)]
      · rw [if_neg e, if_neg (by omega), if_neg e]
    · rw [if_neg h]
      show (if k = p.1 then some p.2 else lk k (yL k' v l)) = if k = k' then some v else (if k = p.1 then some p.2 else lk k l)
      by_cases e : k = p.1
      · rw [if_pos e, if_pos e, if_neg (by omega)]
      · rw [if_neg e, if_neg e, Kg k k' v l]
def Seen (l : List Int) (m : List (Int × Bool)) : Prop := ∀ k, (lk k m).getD false = decide (k ∈ l)
theorem Seen.nil : Seen [] [] := fun k => rfl
theorem Seen.put {l : List Int} {m : List (Int × Bool)} (h : Seen l m) (n : Int) : Seen (l ++ [n]) (yL n true m) := by
  intro k
  rw [Kg]
  by_cases e : k = n
  · simp [e]
  · rw [if_neg e, h k, Bool.eq_iff_iff]; simp [e]
theorem Di {ρ : Type} {body : Val → List Int × List (Int × Bool) → (List Int × List (Int × Bool) → Option ρ) → Option ρ} {K : List Int × List (Int × Bool) → Option ρ}
    (hb : ∀ x l m nx, l.length ≤ 1000 → body x (l, m) nx = bif (decide (x.kind = 2) && (!((lk x.n m).getD false))) then nx (l ++ [x.n], yL x.n true m) else nx (l, m)) :
    ∀ (vs : List Val) (l : List Int) (m : List (Int × Bool)), Seen l m → l.length + vs.length ≤ 1000 → ∃ m', Seen (Dh l vs) m' ∧ each body K vs (l, m) = K (Dh l vs, m')
  | [], l, m, h, _ => ⟨m, h, rfl⟩
  | v :: vs, l, m, h, hl => by
    simp only [List.length_cons] at hl
    rw [dW, hb v l m _ (by omega), h v.n, Bd]
    unfold Df
    by_cases hc : v.kind = 2 ∧ v.n ∉ l
    · rw [if_pos hc, dT hc.1, dF hc.2, Bool.true_and, Bool.not_false, cond_true]
      exact Di hb vs _ _ (h.put v.n) (by simp; omega)
    · rw [if_neg hc, show (decide (v.kind = 2) && !decide (v.n ∈ l)) = false by rw [Bool.and_eq_false_iff]; simp; simp only [not_and, Decidable.not_not] at hc; by_cases e : v.kind = 2 <;> simp [e, hc], cond_false]
      exact Di hb vs _ _ h (by omega)
theorem LQ {cells : List (List Val)} (hc : ow cells) : ∀ (m N k : Nat) (l : List Int) (s : List (Int × Bool)), pF cells.length l → Seen l s → cells.length < k + m → m < N → k ≤ l.length → again (lH cells) N ((k : Int), l, s) = some (Ic cells m k l, 0)
  | m, 0, k, l, s, h, hs, hm, hN, hk => by omega
  | 0, N + 1, k, l, s, h, hs, hm, hN, hk => by have := h.len; omega
  | m + 1, N + 1, k, l, s, h, hs, hm, hN, hk => by
    rw [U4]
    unfold lH Proofs.YtfclkapelkhlpaaGreatDoor.Ic
    simp only
    have hl := h.len
    have hn := hc.1
    by_cases hlt : k < l.length
    · rw [dT (by omega), cond_true, zI hlt, bnd, dif_pos hlt]
      have hr := h.2 _ (List.getElem_mem hlt)
      have hv := hc.at hr
      rw [(wI hr).1, bnd]
      have e0 : (fun (s : Int × List Int × List (Int × Bool)) (Lf : Int × List Int × List (Int × Bool) → Option (List Int × Int)) => match s with | (Gq, AJ, wK) => bif decide ((Gq : Int) < (AJ.length : Int)) then (idx AJ Gq).bind fun x79 => (idx cells x79).bind fun x87 => each ng (ni Gq Lf) x87 (AJ, wK) else some (AJ, 0)) = lH cells := rfl
      rw [e0]
      obtain ⟨s', h1, h2⟩ := Di (body := ng) (K := ni (k : Int) (again (lH cells) N)) (fun x l m nx hl => by
        unfold ng
        simp only [sP]
        cases (decide (x.kind = 2) && (!((lk x.n m).getD false))) with
        | false => rfl
        | true => rw [cond_true, cond_true, FN (room_le (by simp; omega) (by decide))]) (cellAt cells l[k]) l s hs (by have := hv.1.2; omega)
      rw [h2]
      unfold ni
      simp only
      rw [gI (by omega) (by omega)]
      have hp := (Aq (cellAt cells l[k]) l).length_le
      exact LQ hc m N (k + 1) _ s' (h.l hv.2) h1 (by omega) (by omega) (by omega)
    · rw [dF (by omega), cond_false, dif_neg hlt]
theorem TA {N : Nat} (hN : 100 ≤ N) {cells : List (List Val)} (hc : ow cells) {vs : List Val} (hv : ∀ v ∈ vs, jH cells.length v) (hl : vs.length ≤ 400) : zb N cells vs = some (Ap cells vs, 0) := by
  unfold zb
  rw [(NH cells).2 hc, dF (by simp), cond_false, dF (by omega), cond_false]
  have k1 : ∀ l : List Val, (∀ v ∈ l, jH cells.length v) → each (qa cells) (nk N cells vs) l () = nk N cells vs () := by
    intro l
    induction l with
    | nil => intro _; rfl
    | cons x l ih =>
      intro h
      rw [dW]
      unfold qa
      rw [(Am _ _).2 (h x (by simp)), dF (by simp), cond_false]
      exact ih (fun v hv => h v (List.mem_cons_of_mem _ hv))
  rw [k1 vs hv]
  unfold nk
  obtain ⟨s', h1, h2⟩ := Di (body := p9) (K := sQ N cells) (fun x l m nx hl => by
    unfold p9
    simp only [sO]
    cases (decide (x.kind = 2) && (!((lk x.n m).getD false))) with
    | false => rfl
    | true => rw [cond_true, cond_true, FN (room_le (by simp; omega) (by decide))]) vs [] [] Seen.nil (by simp; omega)
  rw [h2]
  exact LQ hc 25 N 0 _ s' (pF.nil.l hv) h1 (by have := hc.1; omega) (by omega) (by omega)
end Go.Proofs.YtfclkapelkhlpaaGreatDoor
namespace Go.Proofs.YtfclkapelkhlpaaGreatDoor
open Go Go.Proofs Go.LX
def ren (l : List Int) (v : Val) : Val := if v.kind = 2 then ⟨v.kind, (l.idxOf v.n : Nat)⟩ else v
def xA (l : List Int) (f : LX.Frame) : LX.Frame := { f with regs := f.regs.map (ren l) }
def roots (fr : List LX.Frame) : List Val := fr.flatMap (·.regs)
def fA (s : LX.State) : List Int := Ap s.cells (roots s.frames)
def iP (s : LX.State) : LX.State := ⟨s.frames.map (xA (fA s)), (fA s).map (fun k => (cellAt s.cells k).map (ren (fA s))), s.status, s.aV⟩
structure Bj (s : LX.State) : Prop where
  small : Small s
  cells : ow s.cells
  vals : ∀ f ∈ s.frames, ∀ v ∈ f.regs, jH s.cells.length v
theorem Ib.sw {a : List dx} {s : LX.State} (h : Ib a s) (ha : Al a) : Bj s where
  small := h.small ha
  cells := h.cells
  vals f hf := by obtain ⟨x, g⟩ := sU h.frames f hf; exact g.vals
theorem Bj.roots {s : LX.State} (h : Bj s) : ∀ v ∈ roots s.frames, jH s.cells.length v := by
  intro v hv
  unfold YtfclkapelkhlpaaGreatDoor.roots at hv
  obtain ⟨f, hf, hv⟩ := List.mem_flatMap.1 hv
  exact h.vals f hf v hv
theorem Qn (fr : List LX.Frame) (h : ∀ f ∈ fr, f.regs.length ≤ 40) : (roots fr).length ≤ 40 * fr.length := by
  induction fr with
  | nil => simp [roots]
  | cons f l ih =>
    have := h f (by simp)
    have := ih (fun g hg => h g (List.mem_cons_of_mem _ hg))
    unfold roots at *
    rw [List.flatMap_cons, List.length_append, List.length_cons]; omega
theorem Bj.rlen {s : LX.State} (h : Bj s) : (YtfclkapelkhlpaaGreatDoor.roots s.frames).length ≤ 400 := by
  have := Qn s.frames h.small.regs
  have := h.small.frames
  omega
theorem Bj.reach {s : LX.State} (h : Bj s) : pF s.cells.length (fA s) ∧ jT (YtfclkapelkhlpaaGreatDoor.roots s.frames) (fA s) ∧ ∀ x ∈ fA s, jT (cellAt s.cells x) (fA s) := Tz h.cells h.roots
theorem LU {α ρ : Type} {body : Int → List α → (List α → Option ρ) → Option ρ} {K : List α → Option ρ} {g : α → α} {P : α → Prop}
    (hb : ∀ (i : Nat) (x : List α) a nx, x[i]? = some a → P a → body (i : Int) x nx = nx (x.set i (g a))) :
    ∀ (l2 l1 : List α), (∀ a ∈ l2, P a) → upto body K (l1.length : Int) l2.length (l1 ++ l2) = K (l1 ++ l2.map g)
  | [], l1, _ => by simp [upto]
  | a :: l2, l1, h => by
    rw [List.length_cons, Jd, hb l1.length (l1 ++ a :: l2) a _ (by simp) (h a (by simp))]
    have := LU (K := K) hb l2 (l1 ++ [g a]) (fun b hb => h b (List.mem_cons_of_mem _ hb))
    rw [show (l1 ++ a :: l2).set l1.length (g a) = (l1 ++ [g a]) ++ l2 by simp, show ((l1.length : Int) + 1) = ((l1 ++ [g a]).length : Nat) by simp, this]
    simp
theorem EH {α ρ : Type} {body : Int → List α → (List α → Option ρ) → Option ρ} {K : List α → Option ρ} {g : α → α} {P : α → Prop}
    (hb : ∀ (i : Nat) (x : List α) a nx, x[i]? = some a → P a → body (i : Int) x nx = nx (x.set i (g a))) (l : List α) (hp : ∀ a ∈ l, P a) : upto body K 0 l.length l = K (l.map g) := by
  have := LU (K := K) hb l [] hp
  simpa using this
def He (l : List Int) (m : List (Int × Int)) : Prop := ∀ k, lk k m = if k ∈ l then some ((l.idxOf k : Nat) : Int) else none
theorem OL {l : List Int} {m : List (Int × Int)} (h : He l m) (vs : List Val) (hr : jT vs l) : Gr vs m = some (vs.map (ren l)) := by
  unfold Gr
  rw [Int.toNat_natCast]
  refine EH (P := fun v => v.kind = 2 → v.n ∈ l) (fun i x a nx hx hp => ?_) vs (fun v hv => hr v hv)
  unfold A7 AZ
  rw [ql, hx, bnd]
  by_cases hk : a.kind = 2
  · rw [dT hk, cond_true, h a.n, if_pos (hp hk)]
    simp [ren, hk]
  · rw [dF hk, cond_false]
    have : x.set i a = x := by
      obtain ⟨h1, rfl⟩ := List.getElem?_eq_some_iff.1 hx
      exact List.set_getElem_self h1
    simp [ren, hk, this]
theorem Hf {s : LX.State} (hc : ow s.cells) {K : List (List Val) × List Int × List (Int × Int) → Option LX.State} : ∀ (l2 l1 : List Int) (m : List (Int × Int)), pF s.cells.length (l1 ++ l2) → He l1 m →
    ∃ m', He (l1 ++ l2) m' ∧ dU (oq s) K (l1.length : Int) l2 (l1.map (cellAt s.cells), l1, m) = K ((l1 ++ l2).map (cellAt s.cells), l1 ++ l2, m')
  | [], l1, m, _, h => ⟨m, by simpa using h, by simp [dU]⟩
  | k :: l2, l1, m, hm, h => by
    have e1 : l1 ++ k :: l2 = (l1 ++ [k]) ++ l2 := by simp
    have hk : k ∉ l1 := by
      intro hk
      exact (List.nodup_append.1 hm.1).2.2 k hk k (by simp) rfl
    have hl := hm.len
    have hn := hc.1
    simp only [List.length_append, List.length_cons] at hl
    have hr := hm.2 k (by simp)
    rw [gU]
    obtain ⟨m', h1, h2⟩ := Hf hc (K := K) l2 (l1 ++ [k]) (yL k (l1.length : Int) m) (by rw [← e1]; exact hm) (fun q => by
      rw [Kg]
      by_cases e : q = k
      · subst e
        rw [if_pos rfl, if_pos (by simp), List.idxOf_append, if_neg hk]
        simp
      · rw [if_neg e, h q]
        by_cases hq : q ∈ l1
        · rw [if_pos hq, if_pos (by simp [hq]), List.idxOf_append, if_pos hq]
        · rw [if_neg hq, if_neg (by simp [hq, e])])
    refine ⟨m', by rw [e1]; exact h1, ?_⟩
    have hlen : (((l1 ++ [k]).length : Nat) : Int) = (l1.length : Int) + 1 := by simp
    rw [hlen] at h2
    rw [e1, ← h2]
    generalize dU (oq s) K ((l1.length : Int) + 1) l2 = K1
    unfold oq
    simp only
    rw [(wI hr).1, bnd, FN hk, FN (room_le (by simp; omega) (by decide)), List.map_append]
    rfl
theorem Kh {l : List Int} {m : List (Int × Int)} (h : He l m) (K : List LX.Frame → Option LX.State) (fr : List LX.Frame) (hr : ∀ f ∈ fr, jT f.regs l) : upto (sS m) K 0 fr.length fr = K (fr.map (xA l)) :=
  EH (P := fun f => jT f.regs l) (fun i x a nx hx hp => by
    unfold sS
    rw [ql, hx, bnd, OL h a.regs hp, bnd]
    simp [xA]) fr hr
theorem LV {l : List Int} {m : List (Int × Int)} (h : He l m) (K : List (List Val) → Option LX.State) (cs : List (List Val)) (hr : ∀ c ∈ cs, jT c l) : upto (uN m) K 0 cs.length cs = K (cs.map (fun c => c.map (ren l))) :=
  EH (P := fun c => jT c l) (fun i x a nx hx hp => by
    unfold uN
    rw [ql, hx, bnd, OL h a hp, bnd]
    simp) cs hr
theorem Jg {K : List Val → Option LX.State} : ∀ (fr : List LX.Frame) (acc : List Val), acc.length + (roots fr).length ≤ 1000 → each qA K fr acc = K (acc ++ roots fr)
  | [], acc, _ => by simp [iw, roots]
  | f :: fr, acc, h => by
    have e : roots (f :: fr) = f.regs ++ roots fr := rfl
    rw [e, List.length_append] at h
    rw [dW]
    have ih := Jg (K := K) fr (acc ++ f.regs) (by simp; omega)
    generalize each qA K fr = K1 at ih ⊢
    unfold qA
    rw [FN (room_le (by omega) (by decide)), ih, e, List.append_assoc]
theorem Dj {fr : List LX.Frame} {l : List Int} (h : jT (roots fr) l) : ∀ f ∈ fr, jT f.regs l := fun f hf v hv hk => h v (List.mem_flatMap.2 ⟨f, hf, hv⟩) hk
theorem LW {N : Nat} (hN : 100 ≤ N) {s : LX.State} (h : Bj s) : yh N s = some (iP s) := by
  have hr := h.reach
  unfold yh
  rw [Jg s.frames [] (by have := h.rlen; simp; omega), List.nil_append]
  unfold vN
  rw [TA hN h.cells h.roots h.rlen, bnd, dF (by simp), cond_false, copy_eq h.small, bnd]
  have e : Ap s.cells (roots s.frames) = fA s := rfl
  simp only [e]
  obtain ⟨m', h1, h2⟩ := Hf h.cells (K := qz s) (fA s) [] [] (by simpa using hr.1) (fun k => by simp [lk])
  have h2' : dU (oq s) (qz s) 0 (fA s) ([], ([] : List Int), ([] : List (Int × Int))) = _ := h2
  rw [h2']
  simp only [List.nil_append] at h1 ⊢
  unfold qz
  simp only [Int.toNat_natCast]
  rw [Kh h1 _ _ (Dj hr.2.1)]
  unfold vM
  rw [Int.toNat_natCast, LV h1 _ _ (fun c hc => by
    obtain ⟨k, hk, rfl⟩ := List.mem_map.1 hc
    exact hr.2.2 k hk)]
  unfold vL iP
  rw [List.map_map]; rfl
end Go.Proofs.YtfclkapelkhlpaaGreatDoor
namespace Go.Proofs.YtfclkapelkhlpaaGreatDoor
open Go Go.Proofs Go.LX
theorem jH.int {n : Nat} {v : Val} (h : jH n v) (hk : v.kind = 1) : -1000000000 ≤ v.n ∧ v.n ≤ 1000000000 := by unfold jH at h; omega
end Go.Proofs.YtfclkapelkhlpaaGreatDoor
namespace Go.Proofs.YtfclkapelkhlpaaGreatDoor
open Go Go.Proofs Go.LX
theorem Bt {a : List dx} {n : Nat} {f : LX.Frame} : ∀ {l : List LX.Frame} {t : Int}, jy a n t (l ++ [f]) ↔ jy a n t l ∧ (∃ x, Ao a n f x) ∧ (0 ≤ f.kG ∧ f.kG < (match l.getLast? with | none => t | some g => g.regs.length))
  | [], t => by simp [jy]
  | g :: l, t => by
    show ((∃ x, Ao a n g x) ∧ (0 ≤ g.kG ∧ g.kG < t) ∧ jy a n g.regs.length (l ++ [f])) ↔ _
    rw [Bt (l := l)]
    have e : (match (g :: l).getLast? with | none => t | some g => ((g.regs.length : Int))) = (match l.getLast? with | none => ((g.regs.length : Int)) | some g => (g.regs.length : Int)) := by
      rw [List.getLast?_cons]
      cases l.getLast? <;> rfl
    rw [e]
    simp only [jy, and_assoc]
structure OM (a : List dx) (pre : List LX.Frame) (f : LX.Frame) (cells : List (List Val)) (x : dx) (c : Ins) : Prop where
  fr : Ao a cells.length f x
  ins : idx x.code f.at_ = some c
  good : zC a x.regs x.code.length c
  chain : jy a cells.length 1 pre
  kG : 0 ≤ f.kG ∧ f.kG < ahead pre
  many : pre.length + 1 ≤ 10
  cok : ow cells
  proc : (1 ≤ x.regs ∧ x.regs ≤ 40) ∧ ui x
theorem OM.sw {a : List dx} {pre : List LX.Frame} {f : LX.Frame} {cells : List (List Val)} {x : dx} {c : Ins} (ha : Al a) (h : OM a pre f cells x c) {st wh : Int} {g : LX.Frame} (hg : Ao a cells.length g x) : Bj ⟨pre ++ [g], cells, st, wh⟩ where
  small := ⟨by have := h.many; simp; omega, fun k hk => by
    rcases List.mem_append.1 hk with hk | hk
    · obtain ⟨y, hy⟩ := sU h.chain k hk
      have := hy.regs
      have := (ha.mem hy.proc).2.2.1
      omega
    · simp at hk; subst hk
      have := hg.regs
      have := h.proc.1
      omega, h.cok.1, fun c hc => (h.cok.2 c hc).1.2⟩
  cells := h.cok
  vals k hk := by
    rcases List.mem_append.1 hk with hk | hk
    · obtain ⟨y, hy⟩ := sU h.chain k hk
      exact hy.vals
    · simp at hk; subst hk; exact hg.vals
section
variable {a : List dx} {pre : List LX.Frame} {f : LX.Frame} {cells : List (List Val)} {st wh : Int} {x : dx} {c : Ins} {N : Nat}
theorem Qo {s : LX.State} (h : Bj s) : (iP s).cells.length ≤ s.cells.length ∧ (iP s).cells.length ≤ 24 := by
  have h1 := h.reach.1.len
  have := h.cells.1
  unfold iP; simp; omega
end
end Go.Proofs.YtfclkapelkhlpaaGreatDoor
namespace Go.Proofs.YtfclkapelkhlpaaGreatDoor
open Go Go.Proofs Go.LX
theorem jH.up {n m : Nat} {v : Val} (h : jH n v) (hm : n ≤ m) : jH m v := by unfold jH at *; omega
theorem Ao.up {a : List dx} {n m : Nat} {f : LX.Frame} {x : dx} (h : Ao a n f x) (hm : n ≤ m) : Ao a m f x := ⟨h.proc, h.at_, h.regs, fun v hv => (h.vals v hv).up hm⟩
theorem EW {a : List dx} {n m : Nat} (hm : n ≤ m) : ∀ {l : List LX.Frame} {t : Int}, jy a n t l → jy a m t l
  | [], _, _ => trivial
  | f :: l, t, h => by obtain ⟨⟨x, g⟩, h2, h3⟩ := h; exact ⟨⟨x, g.up hm⟩, h2, EW hm h3⟩
theorem TB {n : Nat} {l : List Int} {v : Val} (h : jH n v) (hr : v.kind = 2 → v.n ∈ l) : jH l.length (ren l v) := by
  unfold ren
  by_cases hk : v.kind = 2
  · rw [if_pos hk]
    have := List.idxOf_lt_length_of_mem (hr hk)
    unfold jH
    simp only
    omega
  · rw [if_neg hk]; unfold jH at *; omega
theorem Ao.ren {a : List dx} {n : Nat} {l : List Int} {f : LX.Frame} {x : dx} (h : Ao a n f x) (hr : jT f.regs l) : Ao a l.length (xA l f) x where
  proc := h.proc
  at_ := h.at_
  regs := by unfold xA; simpa using h.regs
  vals v hv := by
    unfold xA at hv
    simp only [List.mem_map] at hv
    obtain ⟨w, hw, rfl⟩ := hv
    exact TB (h.vals w hw) (hr w hw)
theorem Dk {a : List dx} {n : Nat} {r : List Int} : ∀ {l : List LX.Frame} {t : Int}, jy a n t l → (∀ f ∈ l, jT f.regs r) → jy a r.length t (l.map (xA r))
  | [], _, _, _ => trivial
  | f :: l, t, h, hr => by
    obtain ⟨⟨x, g⟩, h2, h3⟩ := h
    refine ⟨⟨x, g.ren (hr f (by simp))⟩, h2, ?_⟩
    have := Dk h3 (fun k hk => hr k (List.mem_cons_of_mem _ hk))
    simpa [xA] using this
theorem LY {s : LX.State} (h : Bj s) : ow (iP s).cells := by
  have hr := h.reach
  have hl := hr.1.len
  have hn := h.cells.1
  refine ⟨by simp [iP]; omega, fun c hc => ?_⟩
  unfold iP at hc ⊢
  simp only [List.mem_map, List.length_map] at hc ⊢
  obtain ⟨k, hk, rfl⟩ := hc
  have hk2 := h.cells.at (hr.1.2 k hk)
  refine ⟨by simpa using hk2.1, fun v hv => ?_⟩
  obtain ⟨w, hw, rfl⟩ := List.mem_map.1 hv
  exact TB (hk2.2 w hw) (hr.2.2 k hk w hw)
theorem LZ {a : List dx} (ha : Al a) {s : LX.State} (h : Ib a s) : Ib a (iP s) where
  status := h.status
  aV := h.aV
  stay := h.stay
  ended := by rw [show (iP s).status = s.status from rfl, h.ended]; simp [iP]
  many := by simpa [iP] using h.many
  cells := LY (h.sw ha)
  frames := by
    have hr := (h.sw ha).reach
    have := Dk h.frames (Dj hr.2.1)
    simpa [iP] using this
theorem TC {n : Nat} {r : List Val} {i : Nat} {v : Val} (h : ∀ w ∈ r, jH n w) (hv : jH n v) : ∀ w ∈ r.set i v, jH n w := fun w hw => by
  rcases List.mem_or_eq_of_mem_set hw with hw | rfl
  · exact h w hw
  · exact hv
section
variable {a : List dx} {pre : List LX.Frame} {f : LX.Frame} {cells : List (List Val)} {wh : Int} {x : dx} {c : Ins} {N : Nat}
theorem OM.st (h : OM a pre f cells x c) {g : LX.Frame} {y : dx} {cs : List (List Val)} {s w : Int} (hg : Ao a cs.length g y) (hto : g.kG = f.kG) (hc : ow cs) (hl : cells.length ≤ cs.length) (hs : (s = 0 ∧ w = 0) ∨ (s = 3 ∧ -1000000000 ≤ w ∧ w ≤ 1000000000)) : Ib a ⟨pre ++ [g], cs, s, w⟩ where
  status := by simp only; omega
  aV := by simp only; omega
  stay := by simp only; omega
  ended := by simp; omega
  many := by have := h.many; simp; omega
  cells := hc
  frames := Bt.2 ⟨EW hl h.chain, ⟨y, hg⟩, by rw [hto]; exact h.kG⟩
theorem Ao.put {n : Nat} {f : LX.Frame} {x : dx} (h : Ao a n f x) {i : Nat} {v : Val} (hv : jH n v) : Ao a n { f with regs := f.regs.set i v } x := ⟨h.proc, h.at_, by simpa using h.regs, TC h.vals hv⟩
end
end Go.Proofs.YtfclkapelkhlpaaGreatDoor
namespace Go.Proofs.YtfclkapelkhlpaaGreatDoor
open Go Go.Proofs Go.LX
def Fj (ρ : Int → Int) (v : Val) : Val := if v.kind = 2 then ⟨v.kind, ρ v.n⟩ else v
def L6 (ρ : Int → Int) (f : LX.Frame) : LX.Frame := { f with regs := f.regs.map (Fj ρ) }
structure Qw (ρ : Int → Int) (R : List Int) (s t : LX.State) : Prop where
  frames : t.frames = s.frames.map (L6 ρ)
  status : t.status = s.status
  aV : t.aV = s.aV
  roots : jT (YtfclkapelkhlpaaGreatDoor.roots s.frames) R
  range : ∀ x ∈ R, 0 ≤ x ∧ x < s.cells.length
  range' : ∀ x ∈ R, 0 ≤ ρ x ∧ ρ x < t.cells.length
  inj : ∀ x ∈ R, ∀ y ∈ R, ρ x = ρ y → x = y
  cells : ∀ x ∈ R, cellAt t.cells (ρ x) = (cellAt s.cells x).map (Fj ρ) ∧ jT (cellAt s.cells x) R
theorem Qp (ρ : Int → Int) (v : Val) : (Fj ρ v).kind = v.kind := by unfold Fj; split <;> rfl
theorem L8 (ρ : Int → Int) {v : Val} (h : v.kind = 2) : Fj ρ v = ⟨v.kind, ρ v.n⟩ := if_pos h
theorem OO (ρ : Int → Int) {v : Val} (h : v.kind ≠ 2) : Fj ρ v = v := if_neg h
section
variable {ρ : Int → Int} {R : List Int} {s t : LX.State}
theorem L9 (hi : ∀ x ∈ R, ∀ y ∈ R, ρ x = ρ y → x = y) {l : List Int} (hl : ∀ x ∈ l, x ∈ R) {x : Int} (hx : x ∈ R) : ρ x ∈ l.map ρ ↔ x ∈ l := by
  constructor
  · intro h
    obtain ⟨y, hy, e⟩ := List.mem_map.1 h
    rw [← hi y (hl y hy) x hx e]; exact hy
  · exact fun h => List.mem_map_of_mem h
theorem Bu (hi : ∀ x ∈ R, ∀ y ∈ R, ρ x = ρ y → x = y) : ∀ {l : List Int}, (∀ x ∈ l, x ∈ R) → ∀ {x : Int}, x ∈ R → (l.map ρ).idxOf (ρ x) = l.idxOf x
  | [], _, x, _ => rfl
  | y :: l, hl, x, hx => by
    rw [List.map_cons, List.idxOf_cons, List.idxOf_cons, Bu hi (fun z hz => hl z (List.mem_cons_of_mem _ hz)) hx]
    by_cases e : y = x
    · subst e; simp
    · have e2 : ρ y ≠ ρ x := fun h => e (hi y (hl y (by simp)) x hx h)
      rw [show (ρ y == ρ x) = false by simpa using e2, show (y == x) = false by simpa using e]
theorem TD (hi : ∀ x ∈ R, ∀ y ∈ R, ρ x = ρ y → x = y) {l : List Int} (hl : ∀ x ∈ l, x ∈ R) {v : Val} (hv : v.kind = 2 → v.n ∈ R) : Df (l.map ρ) (Fj ρ v) = (Df l v).map ρ ∧ ∀ x ∈ Df l v, x ∈ R := by
  unfold Df
  by_cases hk : v.kind = 2
  · rw [L8 ρ hk]
    simp only [hk, true_and]
    have hm' := L9 hi hl (hv hk)
    by_cases hm : v.n ∈ l
    · rw [if_neg (fun h => h (hm'.2 hm)), if_neg (fun h => h hm)]; exact ⟨rfl, hl⟩
    · rw [if_pos (fun h => hm (hm'.1 h)), if_pos hm]
      refine ⟨by simp, fun x hx => ?_⟩
      rcases List.mem_append.1 hx with hx | hx
      · exact hl x hx
      · simp at hx; subst hx; exact hv hk
  · rw [OO ρ hk, if_neg (fun h => hk h.1), if_neg (fun h => hk h.1)]; exact ⟨rfl, hl⟩
theorem Hg (hi : ∀ x ∈ R, ∀ y ∈ R, ρ x = ρ y → x = y) : ∀ {vs : List Val} {l : List Int}, (∀ x ∈ l, x ∈ R) → jT vs R → Dh (l.map ρ) (vs.map (Fj ρ)) = (Dh l vs).map ρ ∧ ∀ x ∈ Dh l vs, x ∈ R
  | [], l, hl, _ => ⟨rfl, hl⟩
  | v :: vs, l, hl, hv => by
    obtain ⟨h1, h2⟩ := TD hi hl (hv v (by simp))
    rw [List.map_cons, Bd, Bd, h1]
    exact Hg hi h2 (fun w hw => hv w (List.mem_cons_of_mem _ hw))
theorem Qw.Ic (h : Qw ρ R s t) : ∀ (m k : Nat) (l : List Int), (∀ x ∈ l, x ∈ R) → Ic t.cells m k (l.map ρ) = (Ic s.cells m k l).map ρ ∧ ∀ x ∈ Ic s.cells m k l, x ∈ R
  | 0, k, l, hl => ⟨rfl, hl⟩
  | m + 1, k, l, hl => by
    unfold YtfclkapelkhlpaaGreatDoor.Ic
    by_cases hk : k < l.length
    · rw [dif_pos hk, dif_pos (by simpa using hk)]
      have hx := hl _ (List.getElem_mem hk)
      have hc := h.cells _ hx
      rw [List.getElem_map, hc.1]
      obtain ⟨h1, h2⟩ := Hg h.inj hl hc.2
      rw [h1]
      exact Qw.Ic h m (k + 1) _ h2
    · rw [dif_neg hk, dif_neg (by simpa using hk)]; exact ⟨rfl, hl⟩
theorem Jh (ρ : Int → Int) : ∀ fr : List LX.Frame, YtfclkapelkhlpaaGreatDoor.roots (fr.map (L6 ρ)) = (YtfclkapelkhlpaaGreatDoor.roots fr).map (Fj ρ)
  | [] => rfl
  | f :: fr => by
    have := Jh ρ fr
    unfold YtfclkapelkhlpaaGreatDoor.roots at *
    rw [List.map_cons, List.flatMap_cons, List.flatMap_cons, List.map_append, this]; rfl
theorem Qw.reach (h : Qw ρ R s t) : fA t = (fA s).map ρ ∧ ∀ x ∈ fA s, x ∈ R := by
  unfold fA Ap
  rw [h.frames, Jh]
  obtain ⟨h1, h2⟩ := Hg h.inj (l := []) (fun x hx => by cases hx) h.roots
  rw [List.map_nil] at h1
  rw [h1]
  exact h.Ic 25 0 _ h2
theorem OP (h : Qw ρ R s t) {v : Val} (hv : v.kind = 2 → v.n ∈ R) : ren (fA t) (Fj ρ v) = ren (fA s) v := by
  unfold ren
  rw [Qp]
  by_cases hk : v.kind = 2
  · rw [if_pos hk, if_pos hk, L8 ρ hk, h.reach.1, Bu h.inj h.reach.2 (hv hk)]
  · rw [if_neg hk, if_neg hk, OO ρ hk]
theorem zg {α β : Type} {f g : α → β} : ∀ {l : List α}, (∀ x ∈ l, f x = g x) → l.map f = l.map g := fun h => List.map_congr_left h
theorem Qw.sweep (h : Qw ρ R s t) : iP t = iP s := by
  have hfr : t.frames.map (xA (fA t)) = s.frames.map (xA (fA s)) := by
    rw [h.frames, List.map_map]
    refine zg (fun f hf => ?_)
    have : (f.regs.map (Fj ρ)).map (ren (fA t)) = f.regs.map (ren (fA s)) := by
      rw [List.map_map]
      exact zg (fun v hv => OP h (Dj h.roots f hf v hv))
    show xA (fA t) (L6 ρ f) = xA (fA s) f
    unfold xA L6
    simp only [this]
  have hcs : (fA t).map (fun k => (cellAt t.cells k).map (ren (fA t))) = (fA s).map (fun k => (cellAt s.cells k).map (ren (fA s))) := by
    conv => lhs; rw [h.reach.1]
    rw [List.map_map]
    refine zg (fun k hk => ?_)
    have hc := h.cells k (h.reach.2 k hk)
    show (cellAt t.cells (ρ k)).map (ren _) = _
    rw [hc.1, List.map_map, ← h.reach.1]
    exact zg (fun v hv => OP h (hc.2 v hv))
  unfold iP
  rw [hfr, hcs, h.status, h.aV]
end
theorem NI {cells : List (List Val)} {i : Nat} (h : i < cells.length) : cellAt cells (i : Int) = cells[i] := by unfold cellAt; rw [zI h]; rfl
theorem Ji {s : LX.State} (h : Bj s) : Qw (fun x => ((fA s).idxOf x : Nat)) (fA s) s (iP s) where
  frames := rfl
  status := rfl
  aV := rfl
  roots := h.reach.2.1
  range := h.reach.1.2
  range' x hx := by
    have := List.idxOf_lt_length_of_mem hx
    simp only [iP, List.length_map]; omega
  inj x hx y hy e := by
    have e' : (fA s).idxOf x = (fA s).idxOf y := by omega
    have h1 := List.getElem_idxOf (List.idxOf_lt_length_of_mem hx)
    have h2 := List.getElem_idxOf (List.idxOf_lt_length_of_mem hy)
    rw [← h1, ← h2]; simp only [e']
  cells x hx := by
    have hlt := List.idxOf_lt_length_of_mem hx
    refine ⟨?_, h.reach.2.2 x hx⟩
    rw [NI (by simpa [iP] using hlt)]
    simp only [iP, List.getElem_map]
    rw [List.getElem_idxOf hlt]; rfl
theorem NJ {s : LX.State} (h : Bj s) : iP (iP s) = iP s := (Ji h).sweep
end Go.Proofs.YtfclkapelkhlpaaGreatDoor
namespace Go.Proofs.YtfclkapelkhlpaaGreatDoor
open Go Go.Proofs Go.LX
section
variable {a : List dx} {ρ : Int → Int} {R : List Int} {s t : LX.State}
theorem Hl {cells : List (List Val)} {k j : Int} {c : List Val} (hk : 0 ≤ k ∧ k < cells.length) (hj : 0 ≤ j ∧ j < cells.length) : cellAt (cells.set k.toNat c) j = if j = k then c else cellAt cells j := by
  obtain ⟨n, rfl⟩ := Int.eq_ofNat_of_zero_le hk.1
  obtain ⟨m, rfl⟩ := Int.eq_ofNat_of_zero_le hj.1
  unfold cellAt
  rw [Int.toNat_natCast, ql, ql, List.getElem?_set]
  by_cases e : n = m
  · subst e; rw [if_pos rfl, if_pos (by omega), if_pos rfl]; rfl
  · rw [if_neg e, if_neg (by omega)]
theorem TE {vs : List Val} {i : Nat} {v : Val} (h : jT vs R) (hv : v.kind = 2 → v.n ∈ R) : jT (vs.set i v) R := fun w hw hk => by
  rcases List.mem_or_eq_of_mem_set hw with hw | rfl
  · exact h w hw hk
  · exact hv hk
theorem Qw.put (h : Qw ρ R s t) {fr : List LX.Frame} (hr : jT (YtfclkapelkhlpaaGreatDoor.roots fr) R) {k : Int} (hk : k ∈ R) {i : Nat} {v : Val} (hv : v.kind = 2 → v.n ∈ R) (st wh : Int) :
    Qw ρ R ⟨fr, s.cells.set k.toNat ((cellAt s.cells k).set i v), st, wh⟩ ⟨fr.map (L6 ρ), t.cells.set (ρ k).toNat ((cellAt t.cells (ρ k)).set i (Fj ρ v)), st, wh⟩ := by
  refine ⟨rfl, rfl, rfl, hr, fun x hx => by simpa using h.range x hx, fun x hx => by simpa using h.range' x hx, h.inj, fun x hx => ?_⟩
  simp only
  rw [Hl (h.range' k hk) (h.range' x hx), Hl (h.range k hk) (h.range x hx)]
  have hc := h.cells x hx
  by_cases e : x = k
  · subst e
    rw [if_pos rfl, if_pos rfl, hc.1, List.map_set]
    exact ⟨rfl, TE hc.2 hv⟩
  · rw [if_neg e, if_neg (fun q => e (h.inj x hx k hk q))]
    exact hc
end
end Go.Proofs.YtfclkapelkhlpaaGreatDoor
namespace Go.Proofs.YtfclkapelkhlpaaGreatDoor
open Go Go.Proofs Go.LX
theorem Hm {s : LX.State} (hs : Bj s) (nx : Unit → Option Bool) (g : LX.Frame) : ∀ (l done : List Val), g.regs = (done ++ l).map (ren (fA s)) → (∀ v ∈ l, jH s.cells.length v) → jT l (fA s) →
    dU (ik g (iP s) s) (ja nx) (done.length : Int) l () = nx ()
  | [], done, h, _, _ => rfl
  | v :: l, done, h, hv, hr => by
    rw [gU]
    have ih := Hm hs nx g l (done ++ [v]) (by simpa using h) (fun w hw => hv w (List.mem_cons_of_mem _ hw)) (fun w hw => hr w (List.mem_cons_of_mem _ hw))
    have hl : (((done ++ [v]).length : Nat) : Int) = (done.length : Int) + 1 := by simp
    rw [hl] at ih
    generalize dU (ik g (iP s) s) (ja nx) ((done.length : Int) + 1) l = K at ih ⊢
    unfold ik
    have e : idx g.regs (done.length : Int) = some (ren (fA s) v) := by rw [ql, h]; simp
    rw [e, bnd]
    have hk : (ren (fA s) v).kind = v.kind := by unfold ren; split <;> rfl
    by_cases h2 : v.kind = 2
    · rw [show (decide (((ren (fA s) v).kind : Int) ≠ v.kind) || (decide ((v.kind : Int) ≠ 2) && decide (((ren (fA s) v).n : Int) ≠ v.n))) = false by simp [hk, h2], cond_false, dT h2, cond_true]
      have hin := hr v (by simp) h2
      have I := Ji hs
      have hc := (I.cells _ hin).1
      have hrg := I.range' _ hin
      have hrn : (ren (fA s) v).n = (((fA s).idxOf v.n : Nat) : Int) := by unfold ren; rw [if_pos h2]
      rw [hrn, (wI hrg).1, bnd, (wI (I.range _ hin)).1, bnd, hc, List.length_map]
      unfold ig
      rw [dF (by simp), cond_false]; exact ih
    · have hrn : ren (fA s) v = v := by unfold ren; rw [if_neg h2]
      rw [hrn, show (decide ((v.kind : Int) ≠ v.kind) || (decide ((v.kind : Int) ≠ 2) && decide ((v.n : Int) ≠ v.n))) = false by simp, cond_false, dF h2, cond_false]
      unfold ig
      rw [cond_false]; exact ih
theorem Dl {s : LX.State} (hs : Bj s) : ∀ (l done : List LX.Frame), s.frames = done ++ l → dU (il (iP s) s) jb (done.length : Int) l () = some true
  | [], done, h => rfl
  | f :: l, done, h => by
    rw [gU]
    have ih := Dl hs l (done ++ [f]) (by simpa using h)
    have hl : (((done ++ [f]).length : Nat) : Int) = (done.length : Int) + 1 := by simp
    rw [hl] at ih
    generalize dU (il (iP s) s) jb ((done.length : Int) + 1) l = K at ih ⊢
    unfold il
    have e : idx (iP s).frames (done.length : Int) = some (xA (fA s) f) := by rw [ql]; simp only [iP, h]; simp
    have hf : f ∈ s.frames := by rw [h]; simp
    rw [e, bnd, show (((decide (((xA (fA s) f).proc : Int) ≠ f.proc) || decide (((xA (fA s) f).at_ : Int) ≠ f.at_)) || decide (((xA (fA s) f).kG : Int) ≠ f.kG)) || decide ((((xA (fA s) f).regs.length : Int) : Int) ≠ (f.regs.length : Int))) = false by simp [xA], cond_false]
    have := Hm hs K (xA (fA s) f) f.regs [] (by simp [xA]) (hs.vals f hf) (Dj hs.reach.2.1 f hf)
    exact Eq.trans this ih
theorem TF {a : List dx} (ha : Al a) {s : LX.State} (h : Ib a s) : Bj (iP s) := (LZ ha h).sw ha
theorem vmSwept (a : List dx) (b : LX.State) : ∃ N, qH N a b = some true := by
  refine ⟨NN, ?_⟩
  unfold qH
  rw [Tn, bnd, Bool.not_true, cond_false, EU, bnd]
  have bad : iN NN b a true = some true := by unfold iN; rw [cond_true, Tn]; rfl
  by_cases h1 : XW a = 0
  · rw [if_neg (by omega)]
    by_cases h2 : Yz a b = 0
    · rw [dF (by omega)]
      have ha := Tu h1
      have hs := Tv.1 h2
      have hsw := hs.sw ha
      unfold iN
      rw [cond_false, LW (by decide) hsw, bnd, EU, if_neg (by omega), Tv.2 (LZ ha hs), bnd, dF (by simp), cond_false, LW (by decide) (TF ha hs), bnd, U6, bnd, dT (NJ hsw), Bool.not_true, cond_false]
      rw [dF (by have := (Qo hsw).1; omega), cond_false, dF (by simp [iP]), cond_false, dF (by simp [iP]), cond_false, dF (by simp [iP])]
      unfold fE
      rw [cond_false]
      exact Dl hsw b.frames [] rfl
    · rw [dT h2]; exact bad
  · rw [if_pos h1, dT h1]; exact bad
end Go.Proofs.YtfclkapelkhlpaaGreatDoor
