/-
  What the law SnapSays needs of our own library and of the walks, no more.
-/
import Derived.Test.YtfclkapelkhlpaaGreatDoorSnapSaysTe
set_option linter.unusedSimpArgs false
set_option linter.unusedVariables false
set_option maxRecDepth 10000
namespace Go.Proofs.YtfclkapelkhlpaaGreatDoor
open Go Go.Proofs Go.LX
noncomputable section
abbrev PG : List (Int × Str) := [(2, [118]), (4, [46]), (5, [110, 101, 119]), (6, [102]), (1, [])]
theorem bnd {α β : Type} (a : α) (f : α → Option β) : (some a).bind f = f a := rfl
theorem R4 {α σ : Type} {g : α → Option σ} {l : List α} (hu : ∀ p ∈ l, ∀ q ∈ l, g p ≠ none → g q ≠ none → p = q) {p : α} (hp : p ∈ l) {t : σ} (h : g p = some t) : l.findSome? g = some t := by
  cases e : l.findSome? g with
  | none =>
    rw [List.findSome?_eq_none_iff] at e
    rw [e p hp] at h; cases h
  | some u =>
    obtain ⟨q, hq, hqu⟩ := List.exists_of_findSome?_eq_some e
    have := hu p hp q hq (by rw [h]; simp) (by rw [hqu]; simp)
    subst this
    rw [h] at hqu; exact hqu.symm
theorem KC {α σ : Type} {step : α → σ → Option σ} {g : α → Option σ} : ∀ {l : List α}, (∀ p ∈ l, ∀ s, step p s = some ((g p).getD s)) → (∀ p ∈ l, g p = none) → ∀ s, Io step l s = some s
  | [], _, _, s => rfl
  | p :: l, h, hn, s => by
    unfold Io
    rw [h p (by simp), hn p (by simp), Option.getD_none, bnd]
    exact KC (fun q hq => h q (List.mem_cons_of_mem _ hq)) (fun q hq => hn q (List.mem_cons_of_mem _ hq)) s
theorem KD {α σ : Type} {step : α → σ → Option σ} {g : α → Option σ} : ∀ {l : List α}, (∀ p ∈ l, ∀ s, step p s = some ((g p).getD s)) → (∀ p ∈ l, ∀ q ∈ l, g p ≠ none → g q ≠ none → p = q) → l.Nodup → ∀ s, Io step l s = some ((l.findSome? g).getD s)
  | [], _, _, _, s => rfl
  | p :: l, h, hu, hn, s => by
    unfold Io
    rw [h p (by simp), bnd]
    have hn' := List.nodup_cons.1 hn
    cases e : g p with
    | none =>
      rw [Option.getD_none, KD (fun q hq => h q (List.mem_cons_of_mem _ hq)) (fun a ha b hb => hu a (List.mem_cons_of_mem _ ha) b (List.mem_cons_of_mem _ hb)) hn'.2 s, List.findSome?_cons, e]
    | some t =>
      rw [Option.getD_some, KC (fun q hq => h q (List.mem_cons_of_mem _ hq)) (fun q hq => ?_) t, List.findSome?_cons, e]
      · rfl
      · cases e2 : g q with
        | none => rfl
        | some u =>
          have := hu p (by simp) q (List.mem_cons_of_mem _ hq) (by rw [e]; simp) (by rw [e2]; simp)
          subst this
          exact absurd hq hn'.1
theorem R5 {α σ : Type} {step : α → σ → Option σ} {g : α → Option σ} {L : List α} (h : ∀ p ∈ L, ∀ s, step p s = some ((g p).getD s)) (hu : ∀ p ∈ L, ∀ q ∈ L, g p ≠ none → g q ≠ none → p = q) (hn : L.Nodup) (s : σ) : uu step L s ((L.findSome? g).getD s) := by
  intro l hl
  rw [KD (fun p hp => h p (hl.mem_iff.1 hp)) (fun p hp q hq => hu p (hl.mem_iff.1 hp) q (hl.mem_iff.1 hq)) (hl.nodup_iff.2 hn) s]
  congr 2
  cases e : L.findSome? g with
  | none =>
    rw [List.findSome?_eq_none_iff] at e ⊢
    exact fun x hx => e x (hl.mem_iff.1 hx)
  | some t =>
    obtain ⟨p, hp, ht⟩ := List.exists_of_findSome?_eq_some e
    exact R4 (fun p hp q hq => hu p (hl.mem_iff.1 hp) q (hl.mem_iff.1 hq)) (hl.mem_iff.2 hp) ht
def joO (pe : Int × Str) (y : Int × Bool) (x : Bool) : Option (Int × Int) := bif x then some (pe.1, y.1) else none
def NW (s : Str) (pe : Int × Str) : Option (Option (Int × Int)) :=
  (strings_TrimPrefix s pe.2).bind fun LV => (Cn LV).bind fun E8 => bif (!E8.2) then (kI (⟨pe.1, E8.1⟩ : Tok)).bind fun tX => some (joO pe E8 (decide ((tX : Str) = s))) else some (joO pe E8 false)
theorem XB (pe : Int × Str) (y : Int × Bool) (a b : Int) (x : Bool) : vN pe y a b x = some ((joO pe y x).getD (a, b)) := by
  unfold vN joO; cases x <;> rfl
theorem XC (s : Str) (pe : Int × Str) (st : Int × Int) : qX s pe st = (NW s pe).bind fun o => some (o.getD st) := by
  obtain ⟨a, b⟩ := st
  unfold qX NW
  simp only [XB]
  cases strings_TrimPrefix s pe.2 with
  | none => rfl
  | some y =>
    simp only [bnd]
    cases Cn y with
    | none => rfl
    | some z =>
      simp only [bnd]
      cases z.2 with
      | true => rfl
      | false =>
        simp only [Bool.not_false, cond_true]
        cases kI (⟨pe.1, z.1⟩ : Tok) <;> rfl
def gO (s : Str) (p : Int × Str) : Option (Int × Int) := (NW s p).join
def okW (s : Str) : Bool := PG.all (fun p => (NW s p).isSome) && PG.all (fun p => PG.all fun q => (gO s p).isNone || (gO s q).isNone || decide (p = q))
def preC (s : Str) : Int × Int := (PG.findSome? (gO s)).getD (0, 0)
theorem XD {s : Str} (h : okW s = true) : zo (qX s) PG (0, 0) = some (preC s) := by
  unfold okW at h
  rw [Bool.and_eq_true, List.all_eq_true, List.all_eq_true] at h
  refine OP (R5 (g := gO s) (fun p hp st => ?_) (fun p hp q hq h1 h2 => ?_) (by decide) (0, 0))
  · have h1 := h.1 p hp
    rw [XC]
    unfold gO
    cases e : NW s p with
    | none => rw [e] at h1; cases h1
    | some o => cases o <;> rfl
  · have := List.all_eq_true.1 (h.2 p hp) q hq
    rw [Bool.or_eq_true, Bool.or_eq_true] at this
    rcases this with (e | e) | e
    · exact absurd (Option.isNone_iff_eq_none.1 e) h1
    · exact absurd (Option.isNone_iff_eq_none.1 e) h2
    · exact kQ e
def Vz (s : Str) : Option (Int × Int) := bif okW s then some (preC s) else zo (qX s) PG (0, 0)
theorem VA (s : Str) : Vz s = zo (qX s) PG (0, 0) := by
  unfold Vz
  cases e : okW s with
  | false => rfl
  | true => exact (XD e).symm
def wW (N : Nat) (qW : List Tok) (F : List gG) (yF : Int) (wM : (List Tok × Int × Bool × Int) → Option (List Tok × dL)) (x29 : Str) (Hu : Bool) (y31 : Int) : Option (List Tok × dL) :=
  (Vz x29).bind fun Ns => (E9 N x29 qW F y31 yF wM Hu) Ns
theorem IZ : @wW = @vO := by
  funext a b c d e f g h
  unfold wW vO
  rw [VA]
def zQ (N : Nat) (W : List Str) (F : List gG) (s : List Tok × Int × Bool × Int) (wM : List Tok × Int × Bool × Int → Option (List Tok × dL)) : Option (List Tok × dL) :=
  match s with | (qW, yF, O8, y20) => bif (decide ((0 : Int) < yF) && O8) then bif decide (((W.length : Int) : Int) ≤ y20) then wW N qW F yF wM [] false y20 else iA (jN (y20 + 1)) (iA (jN ((y20 + 1) - 1)) ((idx W ((y20 + 1) - 1)).bind fun x103 => wW N qW F yF wM x103 O8 (y20 + 1))) else some (qW, (⟨y20, O8⟩ : dL))
theorem I1 : @zQ = @vP := by
  unfold zQ vP
  rw [IZ]
def Fp (N : Nat) (sx : dL) (W : List Str) (F : List gG) : Option (List Tok × dL) :=
  again (zQ N W F) N ([], 1, sx.ok, sx.at_)
theorem KE : @Fp = @Fa := by
  unfold Fp Fa
  rw [I1]
def wX (N : Nat) (F0 : dL → List Str → List gG → Int → Option (List bG × dL)) (kJ : Int) (W : List Str) (F : List gG) (a : Int) (p8 : List bG) (wE : Int) (nZ : (List bG × Int × Bool) → Option (List bG × dL)) (LY : Int) (BP : Bool) (sU : List Tok) : Option (List bG × dL) :=
  bif decide (((kJ + 1) : Int) = 2) then (Fp N (⟨LY, BP⟩ : dL) W F).bind fun LV => vQ F0 kJ a W F p8 wE sU nZ LV.2.at_ LV.2.ok LV.1 else vQ F0 kJ a W F p8 wE sU nZ LY BP []
theorem I4 : @wX = @vR := by
  unfold wX vR
  rw [KE]
def um (N : Nat) (F0 : dL → List Str → List gG → Int → Option (List bG × dL)) (kJ : Int) (W : List Str) (F : List gG) (a : Int) (p8 : List bG) (nZ : (List bG × Int × Bool) → Option (List bG × dL)) (uE : Int) (sS : Bool) (wE : Int) : Option (List bG × dL) :=
  bif decide (((kJ + 1) : Int) ≠ 4) then (Fp N (⟨uE, sS⟩ : dL) W F).bind fun y95 => wX N F0 kJ W F a p8 wE nZ y95.2.at_ y95.2.ok y95.1 else wX N F0 kJ W F a p8 wE nZ uE sS []
theorem I5 : @um = @tC := by
  unfold um tC
  rw [KE, I4]
def wY (N : Nat) (F0 : dL → List Str → List gG → Int → Option (List bG × dL)) (p8 : List bG) (W : List Str) (F : List gG) (a : Int) (nZ : (List bG × Int × Bool) → Option (List bG × dL)) (x27 : Str) (y28 : Int) (y29 : Bool) : Option (List bG × dL) :=
  bif decide ((x27 : Str) = [125]) then some (p8, (⟨y28, y29⟩ : dL)) else (ER [115, 101, 116, 32, 112, 117, 116, 32, 115, 97, 121, 32, 112, 97, 117, 115, 101, 32, 103, 111, 32, 105, 102, 32, 119, 104, 105, 108, 101, 32, 114, 101, 116, 117, 114, 110]).bind fun y31 => (slices_Index_string y31 x27).bind fun kJ => iA (jN (kJ + 1)) (bif (!(y29 && decide ((0 : Int) < (kJ + 1)))) then some ([], (⟨y28, (y29 && decide ((0 : Int) < (kJ + 1)))⟩ : dL)) else bif decide (((kJ + 1) : Int) ≤ 2) then bif decide (((W.length : Int) : Int) ≤ y28) then (Cn []).bind fun y104 => um N F0 kJ W F a p8 nZ y28 false y104.1 else iA (jN (y28 + 1)) (iA (jN ((y28 + 1) - 1)) ((idx W ((y28 + 1) - 1)).bind fun G7 => (Cn G7).bind fun Ph => um N F0 kJ W F a p8 nZ (y28 + 1) (y29 && decide ((0 : Int) < (kJ + 1))) Ph.1)) else um N F0 kJ W F a p8 nZ y28 (y29 && decide ((0 : Int) < (kJ + 1))) 0)
theorem I7 : @wY = @vS := by
  unfold wY vS
  rw [I5]
def zR (N : Nat) (F0 : dL → List Str → List gG → Int → Option (List bG × dL)) (W : List Str) (F : List gG) (a : Int) (s : List bG × Int × Bool) (nZ : List bG × Int × Bool → Option (List bG × dL)) : Option (List bG × dL) :=
  match s with | (p8, G8, JN) => bif JN then bif decide (((W.length : Int) : Int) ≤ G8) then wY N F0 p8 W F a nZ [] G8 false else iA (jN (G8 + 1)) (iA (jN ((G8 + 1) - 1)) ((idx W ((G8 + 1) - 1)).bind fun Nt => wY N F0 p8 W F a nZ Nt (G8 + 1) JN)) else some ([], (⟨G8, JN⟩ : dL))
theorem I8 : @zR = @vT := by
  unfold zR vT
  rw [I7]
def yA (N : Nat) (F0 : dL → List Str → List gG → Int → Option (List bG × dL)) (W : List Str) (F : List gG) (a : Int) (y1 : Int) (y2 : Bool) : Option (List bG × dL) :=
  again (zR N F0 W F a) N ([], y1, y2)
theorem J5 : @yA = @xy := by
  unfold yA xy
  rw [I8]
def wZ (N : Nat) (F0 : dL → List Str → List gG → Int → Option (List bG × dL)) (W : List Str) (F : List gG) (a : Int) (D8 : Bool) (G9 : Int) (LZ : Bool) : Option (List bG × dL) :=
  bif D8 then yA N F0 W F a G9 false else yA N F0 W F a G9 LZ
theorem I9 : @wZ = @vU := by
  unfold wZ vU
  rw [J5]
def zA (N : Nat) (F0 : dL → List Str → List gG → Int → Option (List bG × dL)) (sx : dL) (W : List Str) (F : List gG) (a : Int) : Option (List bG × dL) :=
  bif decide (((W.length : Int) : Int) ≤ sx.at_) then wZ N F0 W F a true sx.at_ false else iA (jN (sx.at_ + 1)) (iA (jN ((sx.at_ + 1) - 1)) ((idx W ((sx.at_ + 1) - 1)).bind fun Nu => wZ N F0 W F a (decide ((Nu : Str) ≠ [123]) || decide ((6 : Int) < a)) (sx.at_ + 1) sx.ok))
theorem Mh : @zA = @yN := by
  unfold zA yN
  rw [I9]
def AA : Nat → dL → List Str → List gG → Int → Option (List bG × dL)
  | 0 => fun _ _ _ _ => none
  | N + 1 => zA N (AA N)
theorem Ja : ∀ N, AA N = xz N
  | 0 => rfl
  | N + 1 => by show zA N (AA N) = yN N (xz N); rw [Mh, Ja N]
def jU (N : Nat) (y1 : List Str) (tX : List gG) (i101 : Int) (mV : (List gG × Int × Bool) → Option (List gG × Int)) (uF : Int) (y112 : Bool) : Option (List gG × Int) :=
  (AA N (⟨uF, y112⟩ : dL) y1 tX 1).bind fun lT => (idx tX i101).bind fun yG => mV ((tX.set (i101).toNat { yG with body := lT.1 }), lT.2.at_, lT.2.ok)
theorem xO : @jU = @jd := by
  unfold jU jd
  rw [show @AA = @xz from funext Ja]
def jV (N : Nat) (y1 : List Str) (tX : List gG) (i101 : Int) (mV : (List gG × Int × Bool) → Option (List gG × Int)) (kZ : Int) (zk : Bool) : Option (List gG × Int) :=
  bif decide (((y1.length : Int) : Int) ≤ kZ) then jU N y1 tX i101 mV kZ false else iA (jN (kZ + 1)) (iA (jN ((kZ + 1) - 1)) ((idx y1 ((kZ + 1) - 1)).bind fun Xo => jU N y1 tX i101 mV (kZ + 1) zk))
theorem xP : @jV = @je := by
  unfold jV je
  rw [xO]
def jW (N : Nat) (y1 : List Str) (tX : List gG) (i101 : Int) (mV : (List gG × Int × Bool) → Option (List gG × Int)) (rC : Int) (yl : Bool) : Option (List gG × Int) :=
  bif decide (((y1.length : Int) : Int) ≤ rC) then jV N y1 tX i101 mV rC false else iA (jN (rC + 1)) (iA (jN ((rC + 1) - 1)) ((idx y1 ((rC + 1) - 1)).bind fun qi => jV N y1 tX i101 mV (rC + 1) yl))
theorem xQ : @jW = @jf := by
  unfold jW jf
  rw [xP]
def jX (N : Nat) (y1 : List Str) (tX : List gG) (i101 : Int) (mV : (List gG × Int × Bool) → Option (List gG × Int)) (Ny : Bool) (Ha : Int) (L8 : Bool) : Option (List gG × Int) :=
  bif Ny then jW N y1 tX i101 mV Ha false else jW N y1 tX i101 mV Ha L8
theorem xR : @jX = @jg := by
  unfold jX jg
  rw [xQ]
def mF (N : Nat) (y1 : List Str) (i101 : Int) (s : List gG × Int × Bool) (mV : List gG × Int × Bool → Option (List gG × Int)) : Option (List gG × Int) :=
  match s with | (tX, y98, y99) => bif decide (((y1.length : Int) : Int) ≤ y98) then jX N y1 tX i101 mV true y98 false else iA (jN (y98 + 1)) (iA (jN ((y98 + 1) - 1)) ((idx y1 ((y98 + 1) - 1)).bind fun x152 => jX N y1 tX i101 mV (decide ((x152 : Str) ≠ [102, 117, 110])) (y98 + 1) y99))
theorem xS : @mF = @jh := by
  unfold mF jh
  rw [xR]
def mG (N : Nat) (y1 : List Str) (a : Str) (yj : List gG) (s : Unit) : Option (List gG × Int) :=
  upto (mF N y1) (ky N y1 a) 0 ((yj.length : Int)).toNat (yj, 0, true)
theorem xU : @mG = @ji := by
  unfold mG ji
  rw [xS]
def mH (N : Nat) (y1 : List Str) (a : Str) (yj : List gG) : Option (List gG × Int) :=
  bif (decide (((yj.length : Int) : Int) = 0) || decide ((4 : Int) < (yj.length : Int))) then some ([], 1) else upto (kz yj) (mG N y1 a yj) 0 ((yj.length : Int)).toNat ()
theorem xV : @mH = @jk := by
  unfold mH jk
  rw [xU]
def qx (N : Nat) (a : Str) : Option (List gG × Int) :=
  (Lj a [32]).bind fun y1 => dQ (kC y1) (mH N y1 a) 0 y1 []
theorem zS : @qx = @mo := by
  unfold qx mo
  rw [xV]
def sM (N : Nat) : Option (List gG) :=
  (qx N [102, 117, 110, 32, 48, 32, 49, 32, 123, 32, 115, 101, 116, 32, 48, 32, 51, 32, 119, 104, 105, 108, 101, 32, 118, 48, 32, 123, 32, 115, 97, 121, 32, 102, 49, 32, 118, 48, 32, 118, 48, 32, 103, 111, 32, 118, 48, 32, 112, 97, 117, 115, 101, 32, 115, 101, 116, 32, 48, 32, 45, 32, 118, 48, 32, 49, 32, 125, 32, 125, 32, 102, 117, 110, 32, 50, 32, 50, 32, 123, 32, 114, 101, 116, 117, 114, 110, 32, 42, 32, 118, 48, 32, 118, 49, 32, 125]).bind fun y1 => some y1.1
theorem Cc : @sM = @l9 := by
  unfold sM l9
  rw [zS]
abbrev NN : Nat := 70000
theorem R6 : l9 NN = sM NN := by rw [Cc]
end
end Go.Proofs.YtfclkapelkhlpaaGreatDoor
namespace Go.Proofs.YtfclkapelkhlpaaGreatDoor
open Go Go.Proofs Go.LX
theorem eqInt (a b : List Int) : slices_Equal_int a b = some (decide (a = b)) := by
  unfold slices_Equal_int
  by_cases h : a.length = b.length
  · rw [dF (by omega)]
    simp only [cond_false, Int.toNat_natCast]
    rw [FO (fun x y => decide (x = y)) a b h rfl (fun i x y nx h1 h2 => by
      unfold p9
      rw [o8, o8, h1, h2]
      by_cases e : x = y <;> simp [e]), Dc (fun _ _ => rfl)]
  · rw [dT (by omega)]
    have : a ≠ b := fun e => h (by rw [e])
    rw [dF this]; rfl
theorem wo (a b : Int) : (decide (0 ≤ a) && decide (a < b)) = aF a b := rfl
theorem PH (a b c : Int) : (decide (b ≤ a) && decide (a ≤ c)) = aI a b c := rfl
theorem zB (a : Int) : ed a = aI a (-1000000000) 1000000000 := rfl
theorem kU (a b : Int) : (decide (a < 0) || decide (b ≤ a)) = !aF a b := by
  unfold aF; rw [Bool.eq_iff_iff]; simp; try omega
theorem wu (a : Int) : aF a 4 = aI a 0 3 := by
  unfold aF aI; rw [Bool.eq_iff_iff]; simp; omega
theorem CS {α : Type} (x : α) (l : List α) : idx (x :: l) 0 = some x := by simp [idx]
theorem zC {α : Type} (x y : α) (l : List α) : idx (x :: y :: l) 1 = some y := by simp [idx]
theorem Fq {α : Type} (x y z : α) (l : List α) : idx (x :: y :: z :: l) 2 = some z := by simp [idx]
theorem KF (op a b c : Int) (x : cz) (n : Int) (hn : n = x.regs) (full : List Int) (h : op = 7) : ∀ l : List Int, each (jZ n) mW l () = each (gP ⟨op, a, b, c, full⟩ x) bA l ()
  | [] => rfl
  | y :: l => by
    subst hn h
    have e1 : each (jZ x.regs) mW (y :: l) () = bif (!aF y x.regs) then some 3 else each (jZ x.regs) mW l () := rfl
    have e2 : each (gP ⟨7, a, b, c, full⟩ x) bA (y :: l) () = bif (!aF y x.regs) then some 3 else each (gP ⟨7, a, b, c, full⟩ x) bA l () := rfl
    rw [e1, e2, KF 7 a b c x x.regs rfl full rfl l]
theorem Mi {l : List Int} : l.length = 1 ↔ ∃ x, l = [x] := by
  match l with
  | [] => simp
  | [x] => simp
  | x :: y :: r => simp
set_option maxHeartbeats 2000000 in
theorem ins_eq (c : Ins) (i : Int) (x : cz) (ps : List cz) : dP c i ps x.regs (x.code.length : Int) = dh c x ps := by
  obtain ⟨op, a, b, c, args⟩ := c
  by_cases h1 : op = 1
  · subst h1
    simp [dP, aZ, bY, dn, dA, cZ, bz, cu, bP, bO, bL, dh, bU, bV, aU, bQ, bR, bT, bS, lk, dQ, CS, zC, Fq, wo, PH, kU, zB, wu]
    cases ha : aF a x.regs <;> cases hf : aI b (-1000000000) 1000000000 <;> by_cases zc : c = 0 <;> by_cases DU : args = [] <;> simp_all [each, bA]
  by_cases h2 : op = 2
  · subst h2
    simp [dP, aZ, bY, dn, dA, cZ, bz, cu, bP, bO, bL, dh, bU, bV, aU, bQ, bR, bT, bS, lk, dQ, CS, zC, Fq, wo, PH, kU, zB, wu]
    cases ha : aF a x.regs <;> cases hb : aF b x.regs <;> by_cases zc : c = 0 <;> by_cases DU : args = [] <;> simp_all [each, bA]
  by_cases h3 : op = 3
  · subst h3
    simp [dP, aZ, bY, dn, dA, cZ, bz, cu, bP, bO, bL, dh, bU, bV, aU, bQ, bR, bT, bS, lk, dQ, CS, zC, Fq, wo, PH, kU, zB, wu]
    cases ha : aF a x.regs <;> cases hb : aF b x.regs <;> cases hc : aF c x.regs <;> simp_all [each, bA]
    by_cases e : args.length = 1
    · obtain ⟨y, rfl⟩ := Mi.1 e
      cases hy : aI y 1 5 <;> simp_all [dP, aZ, bY, dn, dA, cZ, bz, cu, bP, bO, bL, dh, bU, bV, aU, bQ, bR, bT, bS, lk, dQ, CS, zC, Fq, wo, PH, kU, zB, wu, each, gP, bA]
    · rw [dF (show ¬ ((args.length : Int) = 1) by omega)]; rfl
  by_cases h4 : op = 4
  · subst h4
    simp [dP, aZ, bY, dn, dA, cZ, bz, cu, bP, bO, bL, dh, bU, bV, aU, bQ, bR, bT, bS, lk, dQ, CS, zC, Fq, wo, PH, kU, zB, wu]
    cases ha : aF a x.regs <;> cases hb : aF b x.regs <;> cases hf : aI c 0 3 <;> by_cases DU : args = [] <;> simp_all [each, bA]
  by_cases h5 : op = 5
  · subst h5
    simp [dP, aZ, bY, dn, dA, cZ, bz, cu, bP, bO, bL, dh, bU, bV, aU, bQ, bR, bT, bS, lk, dQ, CS, zC, Fq, wo, PH, kU, zB, wu]
    cases ha : aF a x.regs <;> cases hf : aI b 1 4 <;> by_cases zc : c = 0 <;> by_cases DU : args = [] <;> simp_all [each, bA]
  by_cases h6 : op = 6
  · subst h6
    simp [dP, aZ, bY, dn, dA, cZ, bz, cu, bP, bO, bL, dh, bU, bV, aU, bQ, bR, bT, bS, lk, dQ, CS, zC, Fq, wo, PH, kU, zB, wu]
    cases ha : aF a x.regs <;> cases hb : aF b x.regs <;> by_cases zc : c = 0 <;> by_cases DU : args = [] <;> simp_all [each, bA]
  by_cases h7 : op = 7
  · subst h7
    simp [dP, aZ, bY, dn, dA, cZ, bz, cu, bP, bO, bL, dh, bU, bV, aU, bQ, bR, bT, bS, lk, dQ, CS, zC, Fq, wo, PH, kU, zB, wu]
    cases ha : aF a x.regs <;> cases hf : aF b (ps.length : Int) <;> simp_all [each, bA]
    cases hp : idx ps b with
    | none => rfl
    | some y =>
      by_cases zc : c = 0 <;> by_cases za : (args.length : Int) = y.params <;> simp_all
      exact KF 7 a b 0 x x.regs rfl args rfl args
  by_cases h8 : op = 8
  · subst h8
    simp [dP, aZ, bY, dn, dA, cZ, bz, cu, bP, bO, bL, dh, bU, bV, aU, bQ, bR, bT, bS, lk, dQ, CS, zC, Fq, wo, PH, kU, zB, wu]
    cases ha : aF a x.regs <;> by_cases zb : b = 0 <;> by_cases zc : c = 0 <;> by_cases DU : args = [] <;> simp_all [each, bA]
  by_cases h9 : op = 9
  · subst h9
    simp [dP, aZ, bY, dn, dA, cZ, bz, cu, bP, bO, bL, dh, bU, bV, aU, bQ, bR, bT, bS, lk, dQ, CS, zC, Fq, wo, PH, kU, zB, wu]
    cases ha : aF a x.regs <;> by_cases zb : b = 0 <;> by_cases zc : c = 0 <;> by_cases DU : args = [] <;> simp_all [each, bA]
  by_cases h10 : op = 10
  · subst h10
    simp [dP, aZ, bY, dn, dA, cZ, bz, cu, bP, bO, bL, dh, bU, bV, aU, bQ, bR, bT, bS, lk, dQ, CS, zC, Fq, wo, PH, kU, zB, wu]
    by_cases za : a = 0 <;> by_cases zb : b = 0 <;> by_cases zc : c = 0 <;> by_cases DU : args = [] <;> simp_all [each, bA]
  by_cases h11 : op = 11
  · subst h11
    simp [dP, aZ, bY, dn, dA, cZ, bz, cu, bP, bO, bL, dh, bU, bV, aU, bQ, bR, bT, bS, lk, dQ, CS, zC, Fq, wo, PH, kU, zB, wu]
    cases ha : aF a x.regs <;> by_cases zb : b = 0 <;> by_cases zc : c = 0 <;> by_cases DU : args = [] <;> simp_all [each, bA]
  by_cases h12 : op = 12
  · subst h12
    simp [dP, aZ, bY, dn, dA, cZ, bz, cu, bP, bO, bL, dh, bU, bV, aU, bQ, bR, bT, bS, lk, dQ, CS, zC, Fq, wo, PH, kU, zB, wu]
    by_cases za : a = 0 <;> cases hf : aF b (x.code.length : Int) <;> by_cases zc : c = 0 <;> by_cases DU : args = [] <;> simp_all [each, bA]
  by_cases h13 : op = 13
  · subst h13
    simp [dP, aZ, bY, dn, dA, cZ, bz, cu, bP, bO, bL, dh, bU, bV, aU, bQ, bR, bT, bS, lk, dQ, CS, zC, Fq, wo, PH, kU, zB, wu]
    cases ha : aF a x.regs <;> cases hf : aF b (x.code.length : Int) <;> by_cases zc : c = 0 <;> by_cases DU : args = [] <;> simp_all [each, bA]
  · simp [dP, aZ, bY, dn, dA, dh, lk, *]
def wy (i : Nat) (x : cz) : Int :=
  if (0 ≤ x.params ∧ x.params ≤ 3) ∧ (1 ≤ x.regs ∧ x.params ≤ x.regs ∧ x.regs ≤ 40) ∧ ¬ (i = 0 ∧ x.params ≠ 0) then (if 1 ≤ x.code.length ∧ x.code.length ≤ 2000 then 0 else 2) else 3
theorem b39_eq (i : Nat) (x : cz) (nx : Unit → Option Int) : jl (i : Int) x () nx = if wy i x ≠ 0 then some (wy i x) else nx () := by
  unfold jl wy
  by_cases h1 : (0 ≤ x.params ∧ x.params ≤ 3) ∧ (1 ≤ x.regs ∧ x.params ≤ x.regs ∧ x.regs ≤ 40) ∧ ¬ (i = 0 ∧ x.params ≠ 0)
  · have e : (((((decide ((x.params : Int) < 0) || decide ((3 : Int) < x.params)) || decide ((x.regs : Int) < 1)) || decide ((x.regs : Int) < x.params)) || decide ((40 : Int) < x.regs)) || (decide ((i : Int) = 0) && decide ((0 : Int) < x.params))) = false := by
      simp only [Bool.or_eq_false_iff, Bool.and_eq_false_iff, decide_eq_false_iff_not]; omega
    rw [e, if_pos h1]
    simp only [cond_false]
    by_cases h2 : 1 ≤ x.code.length ∧ x.code.length ≤ 2000
    · rw [if_pos h2, show (decide (((x.code.length : Int) : Int) = 0) || decide ((2000 : Int) < (x.code.length : Int))) = false by simp only [Bool.or_eq_false_iff, decide_eq_false_iff_not]; omega]
      rfl
    · rw [if_neg h2, show (decide (((x.code.length : Int) : Int) = 0) || decide ((2000 : Int) < (x.code.length : Int))) = true by simp only [Bool.or_eq_true, decide_eq_true_eq]; omega]
      rfl
  · have e : (((((decide ((x.params : Int) < 0) || decide ((3 : Int) < x.params)) || decide ((x.regs : Int) < 1)) || decide ((x.regs : Int) < x.params)) || decide ((40 : Int) < x.regs)) || (decide ((i : Int) = 0) && decide ((0 : Int) < x.params))) = true := by
      simp only [Bool.or_eq_true, Bool.and_eq_true, decide_eq_true_eq]; omega
    rw [e, if_neg h1]
    rfl
theorem r39_eq (i : Nat) (x : cz) (nx : Unit → Option Int) : fe (i : Int) x () nx = if wy i x ≠ 0 then some (wy i x) else nx () := by
  unfold fe wy aI
  by_cases h1 : (0 ≤ x.params ∧ x.params ≤ 3) ∧ (1 ≤ x.regs ∧ x.params ≤ x.regs ∧ x.regs ≤ 40) ∧ ¬ (i = 0 ∧ x.params ≠ 0)
  · have e : (((!(decide ((0 : Int) ≤ x.params) && decide (x.params ≤ (3 : Int)))) || (!(decide (max 1 x.params ≤ x.regs) && decide (x.regs ≤ (40 : Int))))) || (decide ((i : Int) = 0) && decide ((x.params : Int) ≠ 0))) = false := by
      simp only [Bool.or_eq_false_iff, Bool.and_eq_false_iff, Bool.not_eq_false', Bool.and_eq_true, decide_eq_true_eq, decide_eq_false_iff_not]; omega
    rw [e, if_pos h1]
    simp only [cond_false]
    by_cases h2 : 1 ≤ x.code.length ∧ x.code.length ≤ 2000
    · rw [if_pos h2, show (!(decide ((1 : Int) ≤ (x.code.length : Int)) && decide ((x.code.length : Int) ≤ (2000 : Int)))) = false by simp only [Bool.not_eq_false', Bool.and_eq_true, decide_eq_true_eq]; omega]
      rfl
    · rw [if_neg h2, show (!(decide ((1 : Int) ≤ (x.code.length : Int)) && decide ((x.code.length : Int) ≤ (2000 : Int)))) = true by simp only [Bool.not_eq_true', Bool.and_eq_false_iff, decide_eq_false_iff_not]; omega]
      rfl
  · have e : (((!(decide ((0 : Int) ≤ x.params) && decide (x.params ≤ (3 : Int)))) || (!(decide (max 1 x.params ≤ x.regs) && decide (x.regs ≤ (40 : Int))))) || (decide ((i : Int) = 0) && decide ((x.params : Int) ≠ 0))) = true := by
      simp only [Bool.or_eq_true, Bool.and_eq_true, Bool.not_eq_true', Bool.and_eq_false_iff, decide_eq_true_eq, decide_eq_false_iff_not]; omega
    rw [e, if_neg h1]
    rfl
def heads : Nat → List cz → Int
  | _, [] => 0
  | i, x :: p => if wy i x ≠ 0 then wy i x else heads (i + 1) p
theorem Fs (k : Unit → Option Int) : ∀ (p : List cz) (i : Nat), dQ jl k (i : Int) p () = if heads i p ≠ 0 then some (heads i p) else k ()
  | [], i => by simp [heads, dQ]
  | x :: p, i => by
    show jl (i : Int) x () (dQ jl k ((i : Int) + 1) p) = _
    rw [b39_eq, show ((i : Int) + 1) = ((i + 1 : Nat) : Int) by omega, Fs k p (i + 1), heads]
    by_cases h : wy i x = 0 <;> simp [h]
theorem KG (k : Unit → Option Int) : ∀ (p : List cz) (i : Nat), dQ fe k (i : Int) p () = if heads i p ≠ 0 then some (heads i p) else k ()
  | [], i => by simp [heads, dQ]
  | x :: p, i => by
    show fe (i : Int) x () (dQ fe k ((i : Int) + 1) p) = _
    rw [r39_eq, show ((i : Int) + 1) = ((i + 1 : Nat) : Int) by omega, KG k p (i + 1), heads]
    by_cases h : wy i x = 0 <;> simp [h]
theorem b35_eq (a : List cz) (x : cz) (i : Int) (c : Ins) (nx : Unit → Option Int) : ek a x i c () nx = dX x a c () nx := by
  unfold ek dX
  rw [ins_eq]
theorem Jb (a : List cz) (x : cz) (k : Unit → Option Int) : ∀ (l : List Ins) (i : Int), dQ (ek a x) k i l () = each (dX x a) k l ()
  | [], i => rfl
  | c :: l, i => by
    have ih : dQ (ek a x) k (i + 1) l = each (dX x a) k l := by funext u; exact Jb a x k l (i + 1)
    have e1 : dQ (ek a x) k i (c :: l) () = ek a x i c () (dQ (ek a x) k (i + 1) l) := rfl
    have e2 : each (dX x a) k (c :: l) () = dX x a c () (each (dX x a) k l) := rfl
    rw [e1, e2, b35_eq, ih]
theorem b37_eq (a : List cz) (x : cz) (nx : Unit → Option Int) : fV a x () nx = dY a x () nx := by
  unfold fV dY
  rw [Jb]
  rfl
theorem VB (a : List cz) : pW a = kS a := by
  unfold pW kS
  have e : (decide (((a.length : Int) : Int) = 0) || decide ((4 : Int) < (a.length : Int))) = !(aI (a.length : Int) 1 4) := by
    unfold aI; rw [Bool.eq_iff_iff]; simp only [Bool.or_eq_true, Bool.not_eq_true', Bool.and_eq_false_iff, decide_eq_true_eq, decide_eq_false_iff_not]; omega
  rw [e]
  have k1 : ∀ l : List cz, each (fV a) jI l () = each (dY a) gD l () := by
    intro l
    induction l with
    | nil => rfl
    | cons x l ih =>
      have e1 : each (fV a) jI (x :: l) () = fV a x () (each (fV a) jI l) := rfl
      have e2 : each (dY a) gD (x :: l) () = dY a x () (each (dY a) gD l) := rfl
      have : (each (fV a) jI l) = (each (dY a) gD l) := by funext u; exact ih
      rw [e1, e2, b37_eq, this]
  have h1 := Fs (jJ a) a 0
  have h2 := KG (iH a) a 0
  have h1' : dQ jl (jJ a) 0 a () = _ := h1
  have h2' : dQ fe (iH a) 0 a () = _ := h2
  have k2 : jJ a () = iH a () := k1 a
  rw [h1', h2', k2]
end Go.Proofs.YtfclkapelkhlpaaGreatDoor
namespace Go.Proofs.YtfclkapelkhlpaaGreatDoor
open Go Go.Proofs Go.LX
def w9 (x : cz) : Prop := 1 ≤ x.code.length ∧ x.code.length ≤ 2000
theorem df {α σ ρ : Type} {body : α → σ → (σ → ρ) → ρ} {k : σ → ρ} (x : α) (l : List α) (s : σ) : each body k (x :: l) s = body x s (each body k l) := rfl
theorem dZ {α σ ρ : Type} {body : α → σ → (σ → ρ) → ρ} {k : σ → ρ} (s : σ) : each body k [] s = k s := rfl
theorem VC (d : Int) : ∀ l : List Int, ∃ y, each (jZ d) mW l () = some y
  | [] => ⟨0, rfl⟩
  | x :: l => by
    obtain ⟨y, hy⟩ := VC d l
    rw [df]
    unfold jZ
    cases (!(decide ((0 : Int) ≤ x) && decide ((x : Int) < d))) with
    | true => exact ⟨3, rfl⟩
    | false => exact ⟨y, hy⟩
theorem VD (x9 : Bool) (a : Ins) (b HV : Int) (c : List cz) (y13 xZ d uz : Int) : ∃ y, cu x9 a b HV c y13 xZ d uz = some y ∧ (y = 0 → (a.args.length : Int) = xZ) := by
  unfold cu
  cases x9 with
  | false => exact ⟨3, rfl, fun h => absurd h (by decide)⟩
  | true =>
    simp only [Bool.not_true, cond_false]
    generalize hc : (((decide ((a.a : Int) ≠ uz) || decide ((a.b : Int) ≠ HV)) || decide ((a.c : Int) ≠ y13)) || decide (((a.args.length : Int) : Int) ≠ xZ)) = C
    cases C with
    | true => exact ⟨4, rfl, fun h => absurd h (by decide)⟩
    | false =>
      simp only [Bool.or_eq_false_iff, decide_eq_false_iff_not, Decidable.not_not] at hc
      simp only [cond_false]
      cases decide ((a.op : Int) = 7) with
      | true => obtain ⟨y, hy⟩ := VC d a.args; exact ⟨y, hy, fun _ => hc.2⟩
      | false => exact ⟨0, rfl, fun _ => hc.2⟩
theorem j4_tot (a : Ins) (b : Int) (c : List cz) (d : Int) (x9 : Bool) (xZ RP HV y13 : Int) : ∃ y, bz a b c d x9 xZ RP HV y13 = some y ∧ (y = 0 → (a.args.length : Int) = xZ) := by
  unfold bz
  cases decide ((a.op : Int) = 12) with
  | true => exact VD x9 a b HV c y13 xZ d 0
  | false => exact VD x9 a b HV c y13 xZ d RP
def Mj (a : Ins) (r : Option Int) : Prop := ∃ y, r = some y ∧ (y = 0 → a.args.length ≤ 3)
theorem J6 (a : Ins) (b : Int) (c : List cz) (d : Int) (x9 : Bool) {xZ : Int} (RP HV y13 : Int) (h : xZ ≤ 3) : Mj a (bz a b c d x9 xZ RP HV y13) := by
  obtain ⟨y, h1, h2⟩ := j4_tot a b c d x9 xZ RP HV y13
  exact ⟨y, h1, fun h0 => by have := h2 h0; omega⟩
theorem rD {a : Ins} {c : Bool} {x y : Option Int} (h1 : Mj a x) (h2 : Mj a y) : Mj a (bif c then x else y) := by
  cases c
  · exact h2
  · exact h1
theorem Jc {a : Ins} {e : Int} (h : e ≠ 0) : Mj a (some e) := ⟨e, rfl, fun h0 => absurd h0 h⟩
theorem R7 (a : Ins) (b : Int) (c : List cz) (d e : Int) (hp : ∀ x ∈ c, x.params ≤ 3) : Mj a (dP a b c d e) := by
  unfold dP
  refine rD (Jc (by decide)) (rD (Jc (by decide)) (rD (J6 _ _ _ _ _ _ _ _ (by decide)) (rD (J6 _ _ _ _ _ _ _ _ (by decide)) ?_)))
  have k12 : ∀ x, Mj a (bL a b c d x) := fun x => by
    unfold bL
    exact rD (J6 _ _ _ _ _ _ _ _ (by decide)) (rD (J6 _ _ _ _ _ _ _ _ (by decide)) (J6 _ _ _ _ _ _ _ _ (by decide)))
  have k11 : ∀ x, Mj a (bO a b c d e x) := fun x => by
    unfold bO
    refine rD (J6 _ _ _ _ _ _ _ _ (by decide)) ?_
    cases decide ((a.op : Int) = 7) with
    | false =>
      rw [cond_false]
      exact rD (k12 _) (rD (k12 _) (k12 _))
    | true =>
      simp only [cond_true]
      rw [kU]
      cases hb : aF a.b (c.length : Int) with
      | false => exact Jc (by decide)
      | true =>
        simp only [Bool.not_true, cond_false]
        unfold aF at hb
        simp only [Bool.and_eq_true, decide_eq_true_eq] at hb
        obtain ⟨n, hn⟩ := Int.eq_ofNat_of_zero_le hb.1
        rw [hn, rG (by omega), Option.bind_some]
        exact J6 _ _ _ _ _ _ _ _ (hp _ (List.getElem_mem _))
  have k10 : ∀ x, Mj a (bP a b c d e x) := fun x => by
    unfold bP
    refine rD (J6 _ _ _ _ _ _ _ _ (by decide)) ?_
    cases decide ((a.op : Int) = 3) with
    | false =>
      rw [cond_false]
      exact rD (k11 _) (k11 _)
    | true =>
      simp only [cond_true]
      by_cases h1 : a.args.length = 1
      · rw [dT (show ((a.args.length : Int) : Int) = 1 by omega)]
        obtain ⟨y, hy⟩ := Mi.1 h1
        simp only [cond_true]
        rw [show idx a.args 0 = some y by rw [hy, CS], Option.bind_some]
        exact J6 _ _ _ _ _ _ _ _ (by decide)
      · rw [dF (show ¬ ((a.args.length : Int) : Int) = 1 by omega)]
        exact J6 _ _ _ _ _ _ _ _ (by decide)
  exact rD (k10 _) (k10 _)
def Good (a : List cz) : Prop := a.length ≤ 4 ∧ ∀ x ∈ a, w9 x ∧ ∀ c ∈ x.code, c.args.length ≤ 3
theorem NY {i : Nat} {x : cz} (h : wy i x = 0) : x.params ≤ 3 ∧ w9 x := by
  unfold wy at h
  split at h
  · split at h
    · exact ⟨by omega, by unfold w9; omega⟩
    · cases h
  · cases h
theorem Jd : ∀ (p : List cz) (i : Nat), heads i p = 0 → ∀ x ∈ p, x.params ≤ 3 ∧ w9 x
  | [], _, _, x, hx => by cases hx
  | y :: p, i, h, x, hx => by
    unfold heads at h
    split at h
    · rename_i h1; exact absurd h h1
    · rename_i h1
      rcases List.mem_cons.1 hx with rfl | hx
      · exact NY (Decidable.not_not.1 h1)
      · exact Jd p (i + 1) h x hx
theorem QK (a : List cz) (x : cz) (k : Unit → Option Int) (hp : ∀ x ∈ a, x.params ≤ 3) (Q : Prop) (hk : ∃ y, k () = some y ∧ (y = 0 → Q)) : ∀ (l : List Ins) (i : Int), ∃ y, dQ (ek a x) k i l () = some y ∧ (y = 0 → Q ∧ ∀ c ∈ l, c.args.length ≤ 3)
  | [], i => by
    obtain ⟨y, h1, h2⟩ := hk
    exact ⟨y, h1, fun h => ⟨h2 h, by intro c hc; cases hc⟩⟩
  | c :: l, i => by
    obtain ⟨y, h1, h2⟩ := QK a x k hp Q hk l (i + 1)
    have e1 : dQ (ek a x) k i (c :: l) () = ek a x i c () (dQ (ek a x) k (i + 1) l) := rfl
    rw [e1]
    unfold ek
    obtain ⟨z, g1, g2⟩ := R7 c i a x.regs (x.code.length : Int) hp
    rw [g1, Option.bind_some]
    by_cases hz : z = 0
    · rw [dF (by omega), cond_false]
      refine ⟨y, h1, fun h => ⟨(h2 h).1, fun d hd => ?_⟩⟩
      rcases List.mem_cons.1 hd with rfl | hd
      · exact g2 hz
      · exact (h2 h).2 d hd
    · rw [dT hz, cond_true]
      exact ⟨z, rfl, fun h => absurd h hz⟩
theorem QL (a : List cz) (hp : ∀ x ∈ a, x.params ≤ 3 ∧ w9 x) : ∀ l : List cz, (∀ x ∈ l, x.params ≤ 3 ∧ w9 x) → ∃ y, each (fV a) jI l () = some y ∧ (y = 0 → ∀ x ∈ l, ∀ c ∈ x.code, c.args.length ≤ 3)
  | [], _ => ⟨0, rfl, fun _ x hx => by cases hx⟩
  | x :: l, hl => by
    obtain ⟨y, h1, h2⟩ := QL a hp l (fun z hz => hl z (List.mem_cons_of_mem _ hz))
    rw [df]
    unfold fV
    have hx := hl x (by simp)
    obtain ⟨z, g1, g2⟩ := QK a x (qj x (each (fV a) jI l)) (fun x hx => (hp x hx).1) (∀ x ∈ l, ∀ c ∈ x.code, c.args.length ≤ 3) (by
      unfold qj
      have h3 := hx.2
      unfold w9 at h3
      rw [gI, show ((x.code.length : Int) - 1) = ((x.code.length - 1 : Nat) : Int) by omega, rG (by omega), Option.bind_some]
      cases (decide ((x.code[x.code.length - 1].op : Int) ≠ 8) && decide ((x.code[x.code.length - 1].op : Int) ≠ 12)) with
      | true => exact ⟨4, rfl, fun h => absurd h (by decide)⟩
      | false => exact ⟨y, h1, h2⟩) x.code 0
    refine ⟨z, g1, fun h => ?_⟩
    intro w hw
    rcases List.mem_cons.1 hw with rfl | hw
    · exact (g2 h).2
    · exact (g2 h).1 w hw
theorem R8 (a : List cz) : ∃ y, pW a = some y ∧ (y = 0 → Good a) := by
  unfold pW
  generalize hc : (decide (((a.length : Int) : Int) = 0) || decide ((4 : Int) < (a.length : Int))) = C
  cases C with
  | true => exact ⟨2, rfl, fun h => absurd h (by decide)⟩
  | false =>
    simp only [Bool.or_eq_false_iff, decide_eq_false_iff_not] at hc
    have h1 : dQ jl (jJ a) 0 a () = _ := Fs (jJ a) a 0
    rw [cond_false, h1]
    by_cases hz : heads 0 a = 0
    · rw [if_neg (by omega)]
      have hp := Jd a 0 hz
      obtain ⟨y, g1, g2⟩ := QL a hp a hp
      exact ⟨y, g1, fun h => ⟨by omega, fun x hx => ⟨(hp x hx).2, g2 h x hx⟩⟩⟩
    · rw [if_pos hz]
      exact ⟨_, rfl, fun h => absurd h hz⟩
def JQ (a : List cz) : Int := (pW a).getD 0
theorem PI (a : List cz) : pW a = some (JQ a) := by
  obtain ⟨y, h, _⟩ := R8 a
  unfold JQ
  rw [h]; rfl
theorem XE (a : List cz) : kS a = some (JQ a) := by rw [← VB, PI]
def Gf (R x : Int) : Prop := 0 ≤ x ∧ x < R
def Ce (a : List cz) (R L : Int) (c : Ins) : Prop :=
  (c.op = 1 ∧ Gf R c.a ∧ (-1000000000 ≤ c.b ∧ c.b ≤ 1000000000)) ∨
  (c.op = 2 ∧ Gf R c.a ∧ Gf R c.b) ∨
  (c.op = 3 ∧ Gf R c.a ∧ Gf R c.b ∧ Gf R c.c ∧ ∃ n, c.args = [n] ∧ 1 ≤ n ∧ n ≤ 5) ∨
  ((c.op = 4 ∨ c.op = 6) ∧ Gf R c.a ∧ Gf R c.b ∧ (0 ≤ c.c ∧ c.c < 4)) ∨
  (c.op = 5 ∧ Gf R c.a ∧ (1 ≤ c.b ∧ c.b ≤ 4)) ∨
  (c.op = 7 ∧ Gf R c.a ∧ (∃ p, idx a c.b = some p ∧ (c.args.length : Int) = p.params) ∧ ∀ x ∈ c.args, Gf R x) ∨
  ((c.op = 8 ∨ c.op = 9 ∨ c.op = 11) ∧ Gf R c.a) ∨
  c.op = 10 ∨
  (c.op = 12 ∧ (0 ≤ c.b ∧ c.b < L)) ∨
  (c.op = 13 ∧ Gf R c.a ∧ (0 ≤ c.b ∧ c.b < L))
theorem QM (R : Int) : ∀ l : List Int, each (jZ R) mW l () = some 0 → ∀ x ∈ l, Gf R x
  | [], _, x, hx => by cases hx
  | y :: l, h, x, hx => by
    rw [df] at h
    unfold jZ at h
    cases e : (!(decide ((0 : Int) ≤ y) && decide ((y : Int) < R))) with
    | true => rw [e, cond_true] at h; cases h
    | false =>
      rw [e, cond_false] at h
      rcases List.mem_cons.1 hx with rfl | hx
      · simp at e; exact e
      · exact QM R l h x hx
theorem XF {c : Ins} {i : Int} {a : List cz} {R L : Int} (h : dP c i a R L = some 0) : Ce a R L c := by
  obtain ⟨op, ca, cb, cc, args⟩ := c
  by_cases h1 : op = 1
  · subst h1
    simp [dP, aZ, bY, dn, dA, cZ, bz, cu, bP, bO, bL, Bool.cond_eq_ite] at h
    simp [Ce, Gf]
    (repeat (split at h; · simp at h))
    omega
  by_cases h2 : op = 2
  · subst h2
    simp [dP, aZ, bY, dn, dA, cZ, bz, cu, bP, bO, bL, Bool.cond_eq_ite] at h
    simp [Ce, Gf]
    (repeat (split at h; · simp at h))
    omega
  by_cases h3 : op = 3
  · subst h3
    simp [dP, aZ, bY, dn, dA, cZ, bz, cu, bP, bO, bL, Bool.cond_eq_ite] at h
    simp [Ce, Gf]
    by_cases hl : args.length = 1
    · obtain ⟨y, rfl⟩ := Mi.1 hl
      simp [CS] at h
      split at h
      · simp at h
      split at h
      · simp at h
      refine ⟨by omega, by omega, by omega, y, rfl, by omega, by omega⟩
    · exfalso
      rw [if_neg (show ¬ ((args.length : Int) = 1) by omega)] at h
      split at h <;> simp at h
  by_cases h4 : op = 4
  · subst h4
    simp [dP, aZ, bY, dn, dA, cZ, bz, cu, bP, bO, bL, Bool.cond_eq_ite] at h
    simp [Ce, Gf]
    (repeat (split at h; · simp at h))
    omega
  by_cases h5 : op = 5
  · subst h5
    simp [dP, aZ, bY, dn, dA, cZ, bz, cu, bP, bO, bL, Bool.cond_eq_ite] at h
    simp [Ce, Gf]
    (repeat (split at h; · simp at h))
    omega
  by_cases h6 : op = 6
  · subst h6
    simp [dP, aZ, bY, dn, dA, cZ, bz, cu, bP, bO, bL, Bool.cond_eq_ite] at h
    simp [Ce, Gf]
    (repeat (split at h; · simp at h))
    omega
  by_cases h7 : op = 7
  · subst h7
    simp [dP, aZ, bY, dn, dA, cZ, bz, cu, bP, bO, bL, Bool.cond_eq_ite] at h
    simp [Ce, Gf]
    split at h
    · simp at h
    split at h
    · simp at h
    obtain ⟨p, hp, h⟩ := aM h
    (repeat (split at h; · simp at h))
    refine ⟨by omega, ⟨p, hp, by omega⟩, fun x hx => QM R args h x hx⟩
  by_cases h8 : op = 8
  · subst h8
    simp [dP, aZ, bY, dn, dA, cZ, bz, cu, bP, bO, bL, Bool.cond_eq_ite] at h
    simp [Ce, Gf]
    (repeat (split at h; · simp at h))
    omega
  by_cases h9 : op = 9
  · subst h9
    simp [dP, aZ, bY, dn, dA, cZ, bz, cu, bP, bO, bL, Bool.cond_eq_ite] at h
    simp [Ce, Gf]
    (repeat (split at h; · simp at h))
    omega
  by_cases h10 : op = 10
  · subst h10
    simp [Ce, Gf]
  by_cases h11 : op = 11
  · subst h11
    simp [dP, aZ, bY, dn, dA, cZ, bz, cu, bP, bO, bL, Bool.cond_eq_ite] at h
    simp [Ce, Gf]
    (repeat (split at h; · simp at h))
    omega
  by_cases h12 : op = 12
  · subst h12
    simp [dP, aZ, bY, dn, dA, cZ, bz, cu, bP, bO, bL, Bool.cond_eq_ite] at h
    simp [Ce, Gf]
    (repeat (split at h; · simp at h))
    omega
  by_cases h13 : op = 13
  · subst h13
    simp [dP, aZ, bY, dn, dA, cZ, bz, cu, bP, bO, bL, Bool.cond_eq_ite] at h
    simp [Ce, Gf]
    (repeat (split at h; · simp at h))
    omega
  · exfalso
    simp [dP, aZ, bY, dn, dA, cZ, bz, cu, bP, bO, bL, Bool.cond_eq_ite, *] at h
structure BJ (a : List cz) : Prop where
  many : 1 ≤ a.length ∧ a.length ≤ 4
  head : ∀ (i : Nat) x, a[i]? = some x → (0 ≤ x.params ∧ x.params ≤ 3) ∧ (1 ≤ x.regs ∧ x.params ≤ x.regs ∧ x.regs ≤ 40) ∧ ¬ (i = 0 ∧ x.params ≠ 0) ∧ w9 x
  last : ∀ x ∈ a, ∃ c, idx x.code ((x.code.length : Int) - 1) = some c ∧ (c.op = 8 ∨ c.op = 12)
  ins : ∀ x ∈ a, ∀ c ∈ x.code, Ce a x.regs x.code.length c
theorem KH : ∀ (p : List cz) (j : Nat), heads j p = 0 → ∀ (i : Nat) x, p[i]? = some x → wy (j + i) x = 0
  | [], j, _, i, x, hx => by simp at hx
  | y :: p, j, h, i, x, hx => by
    unfold heads at h
    split at h
    · rename_i h1; exact absurd h h1
    · rename_i h1
      cases i with
      | zero => simp at hx; subst hx; exact Decidable.not_not.1 h1
      | succ i => rw [show j + (i + 1) = (j + 1) + i by omega]; exact KH p (j + 1) h i x (by simpa using hx)
theorem QN (a : List cz) (x : cz) (k : Unit → Option Int) : ∀ (l : List Ins) (i : Int), dQ (ek a x) k i l () = some 0 → k () = some 0 ∧ ∀ c ∈ l, Ce a x.regs x.code.length c
  | [], i, h => ⟨h, fun c hc => by cases hc⟩
  | y :: l, i, h => by
    have e1 : dQ (ek a x) k i (y :: l) () = ek a x i y () (dQ (ek a x) k (i + 1) l) := rfl
    rw [e1] at h
    unfold ek at h
    obtain ⟨z, hz, h⟩ := aM h
    by_cases z0 : z = 0
    · subst z0
      rw [dF (by simp), cond_false] at h
      obtain ⟨h1, h2⟩ := QN a x k l (i + 1) h
      refine ⟨h1, fun c hc => ?_⟩
      rcases List.mem_cons.1 hc with rfl | hc
      · exact XF hz
      · exact h2 c hc
    · rw [dT z0, cond_true] at h
      exact absurd (gK h) z0
theorem QO (a : List cz) : ∀ l : List cz, each (fV a) jI l () = some 0 → ∀ x ∈ l, (∃ c, idx x.code ((x.code.length : Int) - 1) = some c ∧ (c.op = 8 ∨ c.op = 12)) ∧ ∀ c ∈ x.code, Ce a x.regs x.code.length c
  | [], _, x, hx => by cases hx
  | y :: l, h, x, hx => by
    rw [df] at h
    unfold fV at h
    obtain ⟨h1, h2⟩ := QN a y _ y.code 0 h
    unfold qj at h1
    obtain ⟨_, h1⟩ := bE h1
    obtain ⟨c, hc, h1⟩ := aM h1
    cases e : (decide ((c.op : Int) ≠ 8) && decide ((c.op : Int) ≠ 12)) with
    | true => rw [e, cond_true] at h1; cases h1
    | false =>
      rw [e, cond_false] at h1
      rcases List.mem_cons.1 hx with rfl | hx
      · exact ⟨⟨c, hc, by simp only [Bool.and_eq_false_iff, decide_eq_false_iff_not, Decidable.not_not] at e; exact e⟩, h2⟩
      · exact QO a l h1 x hx
theorem Fu {a : List cz} (h : JQ a = 0) : BJ a := by
  have h0 := PI a
  rw [h] at h0
  unfold pW at h0
  generalize hc : (decide (((a.length : Int) : Int) = 0) || decide ((4 : Int) < (a.length : Int))) = C at h0
  cases C with
  | true => cases h0
  | false =>
    simp only [Bool.or_eq_false_iff, decide_eq_false_iff_not] at hc
    have h1 : dQ jl (jJ a) 0 a () = _ := Fs (jJ a) a 0
    rw [cond_false, h1] at h0
    by_cases hz : heads 0 a = 0
    · rw [if_neg (by omega)] at h0
      have hb := QO a a h0
      refine ⟨by omega, fun i x hx => ?_, fun x hx => (hb x hx).1, fun x hx => (hb x hx).2⟩
      have := KH a 0 hz i x hx
      rw [Nat.zero_add] at this
      unfold wy at this
      split at this
      · rename_i g
        split at this
        · rename_i g2; exact ⟨g.1, g.2.1, g.2.2, g2⟩
        · cases this
      · cases this
    · rw [if_pos hz] at h0
      exact absurd (gK h0) hz
end Go.Proofs.YtfclkapelkhlpaaGreatDoor
namespace Go.Proofs.YtfclkapelkhlpaaGreatDoor
open Go Go.Proofs Go.LX
theorem jC {α σ ρ : Type} {body : Int → α → σ → (σ → ρ) → ρ} {k : σ → ρ} (i : Int) (x : α) (l : List α) (s : σ) : dQ body k i (x :: l) s = body i x s (dQ body k (i + 1) l) := rfl
theorem AB {σ ρ : Type} {body : Int → σ → (σ → ρ) → ρ} {k : σ → ρ} (i : Int) (m : Nat) (s : σ) : upto body k i (m + 1) s = body i s (upto body k (i + 1) m) := rfl
theorem oH {σ β : Type} {body : σ → (σ → Option β) → Option β} {m : Nat} {s : σ} : again body (m + 1) s = body s (again body m) := rfl
def kV (n : Nat) (v : Val) : Prop := (v.kind = 0 ∧ v.n = 0) ∨ (v.kind = 1 ∧ -1000000000 ≤ v.n ∧ v.n ≤ 1000000000) ∨ (v.kind = 2 ∧ 0 ≤ v.n ∧ v.n < n)
instance (n : Nat) (v : Val) : Decidable (kV n v) := inferInstanceAs (Decidable (_ ∨ _))
theorem CU (n : Nat) (v : Val) : dH v (n : Int) = 0 ↔ kV n v := by
  obtain ⟨k, m⟩ := v
  simp only [dH, kV, Bool.cond_eq_ite, Bool.or_eq_true, decide_eq_true_eq]
  constructor
  · intro h
    (repeat' split at h) <;> first | omega | (exfalso; omega)
  · intro h
    rcases h with ⟨h1, h2⟩ | ⟨h1, h2⟩ | ⟨h1, h2⟩
    · rw [if_pos h1, if_neg (by omega)]
    · rw [if_neg (by omega), if_pos h1, if_neg (by omega)]
    · rw [if_neg (by omega), if_neg (by omega), if_pos h1, if_neg (by omega)]
theorem NZ (v : Val) (n : Int) : bF v n = dH v n := by
  obtain ⟨k, m⟩ := v
  simp only [dH, bF, kL, aI, ed, aF, Bool.cond_eq_ite, Bool.or_eq_true, Bool.and_eq_true, Bool.not_eq_true', decide_eq_true_eq, decide_eq_false_iff_not, Bool.and_eq_false_iff]
  (repeat' split) <;> first | rfl | (exfalso; omega)
def oI (l : List (List Val)) : Prop := l.length ≤ 24 ∧ ∀ c ∈ l, (1 ≤ c.length ∧ c.length ≤ 4) ∧ ∀ v ∈ c, kV l.length v
theorem N7 (a : List (List Val)) : fA a = eT a := by
  unfold fA eT
  have k1 : ∀ (l : List Val) (f : Unit → Int), each (ic a) (ig f) l () = each (iR a) (iC f) l () := by
    intro l f
    induction l with
    | nil => rfl
    | cons x l ih =>
      show (bif decide ((bF x (a.length : Int) : Int) ≠ 0) then bF x (a.length : Int) else each (ic a) (ig f) l ()) = (bif decide ((dH x (a.length : Int) : Int) ≠ 0) then dH x (a.length : Int) else each (iR a) (iC f) l ())
      rw [NZ, ih]
  have k2 : ∀ l : List (List Val), each (ik a) il l () = each (jG a) iT l () := by
    intro l
    induction l with
    | nil => rfl
    | cons x l ih =>
      show (bif (!(aI (x.length : Int) 1 4)) then 2 else each (ic a) (ig (each (ik a) il l)) x ()) = (bif (decide (((x.length : Int) : Int) = 0) || decide ((4 : Int) < (x.length : Int))) then 2 else each (iR a) (iC (each (jG a) iT l)) x ())
      have e : (!(aI (x.length : Int) 1 4)) = (decide (((x.length : Int) : Int) = 0) || decide ((4 : Int) < (x.length : Int))) := by
        unfold aI; rw [Bool.eq_iff_iff]; simp only [Bool.or_eq_true, Bool.not_eq_true', Bool.and_eq_false_iff, decide_eq_true_eq, decide_eq_false_iff_not]; omega
      rw [e, k1]
      have : each (ik a) il l = each (jG a) iT l := by funext u; exact ih
      rw [this]
  rw [k2]
theorem PK (a : List (List Val)) : eT a = 0 ↔ oI a := by
  have k1 : ∀ (l : List Val) (f : Unit → Int), each (iR a) (iC f) l () = 0 ↔ (∀ v ∈ l, kV a.length v) ∧ f () = 0 := by
    intro l f
    induction l with
    | nil => simp [dZ, iC]
    | cons x l ih =>
      show (bif decide ((dH x (a.length : Int) : Int) ≠ 0) then dH x (a.length : Int) else each (iR a) (iC f) l ()) = 0 ↔ _
      by_cases h : dH x (a.length : Int) = 0
      · rw [dF (by omega), cond_false, ih]
        have := (CU _ _).1 h
        simp [this]
      · rw [dT h, cond_true]
        have h2 : ¬ kV a.length x := fun e => h ((CU _ _).2 e)
        simp [h, h2]
  have k2 : ∀ l : List (List Val), each (jG a) iT l () = 0 ↔ ∀ c ∈ l, (1 ≤ c.length ∧ c.length ≤ 4) ∧ ∀ v ∈ c, kV a.length v := by
    intro l
    induction l with
    | nil => simp [dZ, iT]
    | cons x l ih =>
      show (bif (decide (((x.length : Int) : Int) = 0) || decide ((4 : Int) < (x.length : Int))) then 2 else each (iR a) (iC (each (jG a) iT l)) x ()) = 0 ↔ _
      by_cases h : 1 ≤ x.length ∧ x.length ≤ 4
      · rw [show (decide (((x.length : Int) : Int) = 0) || decide ((4 : Int) < (x.length : Int))) = false by simp only [Bool.or_eq_false_iff, decide_eq_false_iff_not]; omega, cond_false, k1, ih]
        simp [h]
      · rw [show (decide (((x.length : Int) : Int) = 0) || decide ((4 : Int) < (x.length : Int))) = true by simp only [Bool.or_eq_true, decide_eq_true_eq]; omega, cond_true]
        simp [h]
  unfold eT oI
  by_cases h : a.length ≤ 24
  · rw [dF (by omega), cond_false, k2]; simp [h]
  · rw [dT (by omega), cond_true]; simp [h]
structure CV (a : List cz) (n : Nat) (f : LX.Frame) (x : cz) : Prop where
  proc : idx a f.proc = some x
  at_ : 0 ≤ f.at_ ∧ f.at_ < x.code.length
  regs : (f.regs.length : Int) = x.regs
  vals : ∀ v ∈ f.regs, kV n v
def kF (a : List cz) (n : Nat) : Int → List LX.Frame → Prop
  | _, [] => True
  | ahead, f :: l => (∃ x, CV a n f x) ∧ (0 ≤ f.ja ∧ f.ja < ahead) ∧ kF a n f.regs.length l
structure Je (a : List cz) (s : LX.State) : Prop where
  status : 0 ≤ s.status ∧ s.status ≤ 3
  bB : -1000000000 ≤ s.bB ∧ s.bB ≤ 1000000000
  stay : s.status ≠ 3 → s.bB = 0
  ended : s.status = 1 ↔ s.frames = []
  many : s.frames.length ≤ 10
  cells : oI s.cells
  frames : kF a s.cells.length 1 s.frames
end Go.Proofs.YtfclkapelkhlpaaGreatDoor
namespace Go.Proofs.YtfclkapelkhlpaaGreatDoor
open Go Go.Proofs Go.LX
def ahead (pre : List LX.Frame) : Int := match pre.getLast? with | none => 1 | some f => f.regs.length
theorem KI : ahead [] = 1 := rfl
theorem Jf (pre : List LX.Frame) (f : LX.Frame) : ahead (pre ++ [f]) = f.regs.length := by simp [ahead]
theorem Gg (b : LX.State) (f : LX.Frame) (n1 : Unit → Option Int) (n2 : Int → Option Int) (hn : n1 () = n2 f.regs.length) : ∀ l : List Val, each (pz b) (pE n1) l () = each (jo b) (jq n2 f) l ()
  | [] => hn
  | x :: l => by
    show (bif decide ((dH x (b.cells.length : Int) : Int) ≠ 0) then some (dH x (b.cells.length : Int)) else each (pz b) (pE n1) l ()) = (bif decide ((bF x (b.cells.length : Int) : Int) ≠ 0) then some (bF x (b.cells.length : Int)) else each (jo b) (jq n2 f) l ())
    rw [NZ, Gg b f n1 n2 hn l]
theorem N8 (b : LX.State) (n1 : Unit → Option Int) (Q : Prop) (hn : ∃ y, n1 () = some y ∧ (y = 0 ↔ Q)) : ∀ l : List Val, ∃ y, each (pz b) (pE n1) l () = some y ∧ (y = 0 ↔ (∀ v ∈ l, kV b.cells.length v) ∧ Q)
  | [] => by obtain ⟨y, h1, h2⟩ := hn; exact ⟨y, h1, by simp [h2]⟩
  | x :: l => by
    obtain ⟨y, h1, h2⟩ := N8 b n1 Q hn l
    have e : each (pz b) (pE n1) (x :: l) () = (bif decide ((dH x (b.cells.length : Int) : Int) ≠ 0) then some (dH x (b.cells.length : Int)) else each (pz b) (pE n1) l ()) := rfl
    rw [e]
    by_cases h : dH x (b.cells.length : Int) = 0
    · rw [dF (by omega), cond_false]
      have := (CU _ _).1 h
      exact ⟨y, h1, by rw [h2]; simp [this]⟩
    · rw [dT h, cond_true]
      refine ⟨_, rfl, ?_⟩
      have h3 : ¬ kV b.cells.length x := fun e => h ((CU _ _).2 e)
      simp [h, h3]
theorem GJ (a : List cz) (b : LX.State) (hm : b.frames.length ≤ 10) : ∀ (l pre : List LX.Frame), b.frames = pre ++ l →
    dQ (tH a b) vV (pre.length : Int) l () = each (eP a b) gm l (ahead pre)
  | [], pre, h => rfl
  | f :: l, pre, h => by
    have ih := GJ a b hm l (pre ++ [f]) (by simpa using h)
    rw [Jf] at ih
    have hi : (((pre ++ [f]).length : Nat) : Int) = (pre.length : Int) + 1 := by simp
    rw [hi] at ih
    rw [jC, df]
    generalize dQ (tH a b) vV ((pre.length : Int) + 1) l = K1 at ih ⊢
    generalize each (eP a b) gm l = K2 at ih ⊢
    unfold tH eP
    have hl : pre.length ≤ 10 := by have := congrArg List.length h; simp at this; omega
    have e1 : (decide ((f.proc : Int) < 0) || decide (((a.length : Int) : Int) ≤ f.proc)) = !aF f.proc (a.length : Int) := kU _ _
    rw [e1]
    cases hp : aF f.proc (a.length : Int) with
    | false => rfl
    | true =>
      simp only [Bool.not_true, cond_false]
      cases hx : idx a f.proc with
      | none => rfl
      | some x =>
        simp only [bnd]
        cases ha : aF f.at_ (x.code.length : Int) with
        | false =>
          rw [show (((decide ((f.at_ : Int) < 0) || decide (((x.code.length : Int) : Int) ≤ f.at_)) || decide ((f.ja : Int) < 0)) || (decide ((pre.length : Int) = 0) && decide ((f.ja : Int) ≠ 0))) = true by
            have := kU f.at_ (x.code.length : Int)
            rw [ha] at this
            rw [this]; rfl]
          rfl
        | true =>
          have h3 := kU f.at_ (x.code.length : Int)
          rw [ha] at h3
          rw [h3]
          simp only [Bool.not_true, Bool.false_or, cond_false]
          have key : ∀ t, tF f x b K1 t = fZ a f b K2 t := by
            intro t
            unfold tF fZ
            rw [hx, bnd, Gg b f _ _ ih]
          simp only [key]
          rcases List.eq_nil_or_concat pre with rfl | ⟨q, g, rfl⟩
          · rw [KI]
            by_cases ht : f.ja = 0
            · rw [show (decide ((f.ja : Int) < 0) || (decide ((([] : List LX.Frame).length : Int) = 0) && decide ((f.ja : Int) ≠ 0))) = false by simp [ht], cond_false, dF (by simp), cond_false, show (!aF f.ja 1) = false by simp [ht, aF]]
            · rw [show (decide ((f.ja : Int) < 0) || (decide ((([] : List LX.Frame).length : Int) = 0) && decide ((f.ja : Int) ≠ 0))) = true by simp [ht], cond_true, show (!aF f.ja 1) = true by simp [aF]; omega]
          · rw [List.concat_eq_append] at *
            rw [Jf]
            have hlen : ((q ++ [g]).length : Int) = (q.length : Int) + 1 := by simp
            rw [hlen, show (decide ((q.length : Int) + 1 = 0)) = false from dF (by omega), Bool.false_and, Bool.or_false]
            by_cases ht : f.ja < 0
            · rw [dT ht, cond_true, show (!aF f.ja (g.regs.length : Int)) = true by simp [aF]; omega]
            · rw [dF ht, cond_false, dT (by omega), cond_true, gI (by omega) (by simp at hl; omega), show (q.length : Int) + 1 - 1 = ((q.length : Nat) : Int) by omega, o8, h]
              simp only [List.append_assoc, List.getElem?_append_right (Nat.le_refl _), Nat.sub_self, List.cons_append, List.nil_append, List.getElem?_cons_zero, bnd]
              congr 1
              rw [Bool.eq_iff_iff]; simp [aF]; omega
theorem CW (a : List cz) (b : LX.State) : yO a b = gN a b := by
  unfold yO gN
  have e1 : (((decide ((b.status : Int) < 0) || decide ((3 : Int) < b.status)) || decide ((b.bB : Int) < -1000000000)) || decide ((1000000000 : Int) < b.bB)) = ((!(aI b.status 0 3)) || (!(ed b.bB))) := by
    unfold ed aI; rw [Bool.eq_iff_iff]; simp only [Bool.or_eq_true, Bool.not_eq_true', Bool.and_eq_false_iff, decide_eq_true_eq, decide_eq_false_iff_not]; omega
  have e2 : ((decide ((b.status : Int) ≠ 3) && decide ((b.bB : Int) ≠ 0)) || (decide ((b.status : Int) = 1) != decide (((b.frames.length : Int) : Int) = 0))) = (((decide ((b.bB : Int) ≠ 0) && decide ((b.status : Int) ≠ 3)) || (decide ((b.status : Int) = 1) && decide ((0 : Int) < (b.frames.length : Int)))) || (decide ((b.status : Int) ≠ 1) && decide (((b.frames.length : Int) : Int) = 0))) := by
    by_cases h1 : b.status = 1 <;> by_cases h2 : b.frames.length = 0 <;> by_cases h3 : b.status = 3 <;> by_cases h4 : b.bB = 0 <;> simp [h1, h2, h3, h4] <;> omega
  rw [e1, e2, N7]
  by_cases h : b.frames.length ≤ 10
  · have := GJ a b h b.frames [] rfl
    rw [KI] at this
    rw [← this]; rfl
  · rw [show (decide ((10 : Int) < (b.frames.length : Int))) = true from dT (by omega)]
    rfl
theorem Jg (a : List cz) (b : LX.State) : ∀ (l : List LX.Frame) (t : Int), ∃ y, each (eP a b) gm l t = some y ∧ (y = 0 ↔ kF a b.cells.length t l)
  | [], t => ⟨0, rfl, by simp [kF]⟩
  | f :: l, t => by
    obtain ⟨y, h1, h2⟩ := Jg a b l f.regs.length
    rw [df]
    generalize each (eP a b) gm l = K2 at h1 ⊢
    unfold eP
    cases hp : aF f.proc (a.length : Int) with
    | false =>
      refine ⟨5, rfl, ?_⟩
      have : ¬ kF a b.cells.length t (f :: l) := by
        rintro ⟨⟨x, g⟩, -, -⟩
        have := aR g.proc
        have h3 := (List.getElem?_eq_some_iff.1 this.2).1
        unfold aF at hp
        simp only [Bool.and_eq_false_iff, decide_eq_false_iff_not] at hp
        omega
      simp [this]
    | true =>
      unfold aF at hp
      simp only [Bool.and_eq_true, decide_eq_true_eq] at hp
      simp only [Bool.not_true, cond_false]
      obtain ⟨n, hn⟩ := Int.eq_ofNat_of_zero_le hp.1
      have hx : idx a f.proc = some (a[n]'(by omega)) := by rw [hn, rG (by omega)]
      generalize a[n]'(by omega) = x at hx
      rw [hx, bnd]
      have kB : ∃ y, fZ a f b K2 true = some y ∧ y ≠ 0 := ⟨3, rfl, by decide⟩
      have uniq : ∀ z, CV a b.cells.length f z → z = x := fun z g => by have := g.proc; rw [hx] at this; exact (gK this).symm
      cases ha : aF f.at_ (x.code.length : Int) with
      | false =>
        obtain ⟨y, g1, g2⟩ := kB
        refine ⟨y, g1, ?_⟩
        have : ¬ kF a b.cells.length t (f :: l) := by
          rintro ⟨⟨z, g⟩, -, -⟩
          have := uniq z g; subst this
          have := g.at_
          unfold aF at ha
          simp only [Bool.and_eq_false_iff, decide_eq_false_iff_not] at ha
          omega
        simp [this, g2]
      | true =>
        simp only [Bool.not_true, cond_false]
        cases ht : aF f.ja t with
        | false =>
          obtain ⟨y, g1, g2⟩ := kB
          refine ⟨y, g1, ?_⟩
          have : ¬ kF a b.cells.length t (f :: l) := by
            rintro ⟨⟨z, g⟩, h3, -⟩
            unfold aF at ht
            simp only [Bool.and_eq_false_iff, decide_eq_false_iff_not] at ht
            omega
          simp [this, g2]
        | true =>
          simp only [Bool.not_true]
          unfold fZ
          rw [hx, cond_false, bnd]
          unfold aF at ha ht
          simp only [Bool.and_eq_true, decide_eq_true_eq] at ha ht
          by_cases hr : (f.regs.length : Int) = x.regs
          · rw [dF (by omega), cond_false, ← Gg b f (fun _ => K2 f.regs.length) _ rfl]
            obtain ⟨z, g1, g2⟩ := N8 b (fun _ => K2 f.regs.length) _ ⟨y, h1, h2⟩ f.regs
            refine ⟨z, g1, g2.trans ⟨fun h => ⟨⟨x, hx, ha, hr, h.1⟩, ht, h.2⟩, ?_⟩⟩
            rintro ⟨⟨z, g⟩, h3, h4⟩
            exact ⟨g.vals, h4⟩
          · rw [dT (by omega), cond_true]
            refine ⟨4, rfl, ?_⟩
            have : ¬ kF a b.cells.length t (f :: l) := by
              rintro ⟨⟨z, g⟩, -, -⟩
              have := uniq z g; subst this
              exact hr g.regs
            simp [this]
theorem Jh (a : List cz) (b : LX.State) : ∃ y, yO a b = some y ∧ (y = 0 ↔ Je a b) := by
  rw [CW]
  unfold gN
  cases c1 : ((!(aI b.status 0 3)) || (!(ed b.bB))) with
  | true =>
    refine ⟨3, rfl, ⟨fun h => absurd h (by decide), fun h => ?_⟩⟩
    unfold ed aI at c1
    simp only [Bool.or_eq_true, Bool.not_eq_true', Bool.and_eq_false_iff, decide_eq_false_iff_not] at c1
    have := h.status; have := h.bB; omega
  | false =>
    unfold ed aI at c1
    simp only [Bool.or_eq_false_iff, Bool.not_eq_false', Bool.and_eq_true, decide_eq_true_eq] at c1
    rw [cond_false]
    cases c2 : (((decide ((b.bB : Int) ≠ 0) && decide ((b.status : Int) ≠ 3)) || (decide ((b.status : Int) = 1) && decide ((0 : Int) < (b.frames.length : Int)))) || (decide ((b.status : Int) ≠ 1) && decide (((b.frames.length : Int) : Int) = 0))) with
    | true =>
      refine ⟨4, rfl, ⟨fun h => absurd h (by decide), fun h => ?_⟩⟩
      simp only [Bool.or_eq_true, Bool.and_eq_true, decide_eq_true_eq] at c2
      rcases c2 with (c2 | c2) | c2
      · exact absurd (h.stay c2.2) c2.1
      · have := h.ended.1 c2.1; rw [this] at c2; simp at c2
      · exact absurd (h.ended.2 (List.eq_nil_of_length_eq_zero (by omega))) c2.1
    | false =>
      simp only [Bool.or_eq_false_iff, Bool.and_eq_false_iff, decide_eq_false_iff_not] at c2
      rw [cond_false]
      by_cases hm : b.frames.length ≤ 10
      · rw [dF (by omega), cond_false, N7]
        by_cases hc : eT b.cells = 0
        · rw [dF (by omega), cond_false]
          obtain ⟨y, h1, h2⟩ := Jg a b b.frames 1
          refine ⟨y, h1, h2.trans ⟨fun h => ⟨by omega, by omega, fun h3 => by omega, ⟨fun h3 => ?_, fun h3 => ?_⟩, hm, (PK _).1 hc, h⟩, fun h => h.frames⟩⟩
          · exact List.eq_nil_of_length_eq_zero (by omega)
          · rw [h3] at c2; simp at c2; omega
        · rw [dT hc, cond_true]
          exact ⟨_, rfl, ⟨fun h => absurd h hc, fun h => absurd ((PK _).2 h.cells) hc⟩⟩
      · rw [dT (by omega), cond_true]
        exact ⟨2, rfl, ⟨fun h => absurd h (by decide), fun h => absurd h.many hm⟩⟩
def PL (a : List cz) (s : LX.State) : Int := (yO a s).getD 0
theorem VE (a : List cz) (s : LX.State) : yO a s = some (PL a s) := by obtain ⟨y, h, -⟩ := Jh a s; unfold PL; rw [h]; rfl
theorem QP (a : List cz) (s : LX.State) : gN a s = some (PL a s) := by rw [← CW, VE]
theorem Mk {a : List cz} {s : LX.State} : PL a s = 0 ↔ Je a s := by obtain ⟨y, h, h2⟩ := Jh a s; unfold PL; rw [h]; exact h2
theorem GK (a : List cz) (s : LX.State) : Aq a s = some (if JQ a ≠ 0 then JQ a else PL a s) := by
  unfold Aq
  rw [PI, bnd]
  by_cases h : JQ a = 0
  · rw [dF (by omega), cond_false, VE, bnd, if_neg (by omega)]
  · rw [dT h, cond_true, if_pos h]
end Go.Proofs.YtfclkapelkhlpaaGreatDoor
namespace Go.Proofs.YtfclkapelkhlpaaGreatDoor
open Go Go.Proofs Go.LX
theorem PM (a b : List Val) : jm a b = some (decide (a = b)) := by
  unfold jm
  by_cases h : a.length = b.length
  · rw [dF (by omega)]
    simp only [cond_false, Int.toNat_natCast]
    rw [FO (fun x y => decide (x = y)) a b h rfl (fun i x y nx h1 h2 => by
      unfold oD
      rw [o8, o8, h1, h2]
      obtain ⟨k, n⟩ := x; obtain ⟨k2, n2⟩ := y
      by_cases e : k = k2 <;> by_cases e2 : n = n2 <;> simp [e, e2]), Dc (fun _ _ => rfl)]
  · rw [dT (by omega)]
    have : a ≠ b := fun e => h (by rw [e])
    rw [dF this]; rfl
theorem QQ (a b : List (List Val)) : Dt a b = some (decide (a = b)) := by
  unfold Dt
  by_cases h : a.length = b.length
  · rw [dF (by omega), cond_false, Ii (fun x y => decide (x = y)) a b h rfl (fun i x y nx h2 => by
      unfold yz
      rw [o8, h2, bnd, PM, bnd]
      by_cases e : x = y <;> simp [e]), Dc (fun _ _ => rfl)]
  · rw [dT (by omega)]
    have : a ≠ b := fun e => h (by rw [e])
    rw [dF this]; rfl
theorem VF (a b : List (List Val)) : oF a b = some (decide (a = b)) := by
  unfold oF
  by_cases h : a.length = b.length
  · rw [dF (by omega)]
    simp only [cond_false, Int.toNat_natCast]
    rw [FO (fun x y => decide (x = y)) a b h rfl (fun i x y nx h1 h2 => by
      unfold lD
      rw [o8, o8, h1, h2, bnd, bnd, PM, bnd]
      by_cases e : x = y <;> simp [e]), Dc (fun _ _ => rfl)]
  · rw [dT (by omega)]
    have : a ≠ b := fun e => h (by rw [e])
    rw [dF this]; rfl
theorem fr_eq (x y : LX.Frame) (nx : Unit → Option Bool) : (bif ((decide ((x.proc : Int) = y.proc) && decide ((x.at_ : Int) = y.at_)) && decide ((x.ja : Int) = y.ja)) then (jm x.regs y.regs).bind fun y39 => uT nx (!y39) else uT nx true) = bif decide (x = y) then nx () else some false := by
  obtain ⟨p, t, r, o⟩ := x; obtain ⟨p2, t2, r2, o2⟩ := y
  simp only [PM, bnd, uT]
  by_cases e1 : p = p2 <;> by_cases e2 : t = t2 <;> by_cases e3 : r = r2 <;> by_cases e4 : o = o2 <;> simp [e1, e2, e3, e4]
theorem st_eq (a b : LX.State) : decide (a = b) = ((decide (a.status = b.status) && decide (a.bB = b.bB)) && (decide (a.cells = b.cells) && decide (a.frames = b.frames))) := by
  obtain ⟨f, c, s, w⟩ := a; obtain ⟨f2, c2, s2, w2⟩ := b
  rw [Bool.eq_iff_iff]; simp; constructor <;> (intro h; simp [h])
theorem QR (a b : LX.State) : BF a b = some (decide (a = b)) := by
  rw [st_eq]
  unfold BF
  cases (decide ((a.status : Int) = b.status) && decide ((a.bB : Int) = b.bB)) with
  | false => rfl
  | true =>
    rw [cond_true, QQ, bnd]
    cases decide (a.cells = b.cells) with
    | false => rfl
    | true =>
      rw [cond_true]
      by_cases h : a.frames.length = b.frames.length
      · rw [dF (by omega), cond_false, Ii (fun x y => decide (x = y)) a.frames b.frames h rfl (fun i x y nx h2 => by
          unfold zy
          rw [o8, h2, bnd]
          exact fr_eq x y nx), Dc (fun _ _ => rfl)]; rfl
      · rw [dT (by omega)]
        have : a.frames ≠ b.frames := fun e => h (by rw [e])
        rw [dF this]; rfl
theorem N9 (a b : LX.State) : gp a b = some (decide (a = b)) := by
  rw [← QR]
  unfold gp BF
  rw [QQ, VF]
  rfl
structure Small (s : LX.State) : Prop where
  frames : s.frames.length ≤ 10
  regs : ∀ f ∈ s.frames, f.regs.length ≤ 40
  cells : s.cells.length ≤ 24
  fields : ∀ c ∈ s.cells, c.length ≤ 4
theorem wz {a : List cz} {n : Nat} : ∀ {l : List LX.Frame} {t : Int}, kF a n t l → ∀ f ∈ l, ∃ x, CV a n f x
  | [], _, _, f, hf => by cases hf
  | g :: l, t, h, f, hf => by
    rcases List.mem_cons.1 hf with rfl | hf
    · exact h.1
    · exact wz h.2.2 f hf
theorem BJ.mem {a : List cz} (h : BJ a) {k : Int} {x : cz} (hx : idx a k = some x) : x ∈ a ∧ (0 ≤ x.params ∧ x.params ≤ 3) ∧ (1 ≤ x.regs ∧ x.params ≤ x.regs ∧ x.regs ≤ 40) ∧ w9 x := by
  have h1 := (aR hx).2
  have := h.head _ x h1
  exact ⟨List.mem_of_getElem? h1, this.1, this.2.1, this.2.2.2⟩
theorem Je.small {a : List cz} {s : LX.State} (h : Je a s) (ha : BJ a) : Small s where
  frames := h.many
  regs f hf := by
    obtain ⟨x, g⟩ := wz h.frames f hf
    have := (ha.mem g.proc).2.2.1
    have := g.regs
    omega
  cells := h.cells.1
  fields c hc := (h.cells.2 c hc).1.2
theorem Fv {α : Type} {bytes : Nat} {a : List α} (h : a.length ≤ 400) (hb : bytes ≤ 48) : clone bytes a = some a := by
  have : a.length * bytes ≤ 400 * 48 := Nat.mul_le_mul h hb
  unfold clone
  exact mR ⟨by simp; omega, by simp; omega⟩
theorem Gh {ρ : Type} {body : Int → Unit → (Unit → ρ) → ρ} {k : Unit → ρ} : ∀ (m : Nat) (i : Nat), (∀ j : Nat, i ≤ j → j < i + m → ∀ nx, body (j : Int) () nx = nx ()) → upto body k (i : Int) m () = k ()
  | 0, i, _ => rfl
  | m + 1, i, h => by
    rw [AB, h i (Nat.le_refl _) (by omega), show ((i : Int) + 1) = ((i + 1 : Nat) : Int) by omega]
    exact Gh m (i + 1) (fun j h1 h2 => h j (by omega) (by omega))
theorem Oa {l : List (List Val)} (h : l.length ≤ 24) (hf : ∀ c ∈ l, c.length ≤ 4) : Dp l = some l := by
  unfold Dp
  rw [Fv (by omega) (by decide), bnd, Int.toNat_natCast]
  exact Gh (k := yt l) l.length 0 (fun j h1 h2 nx => by
    unfold yo
    rw [rG (by omega), bnd, Fv (by have := hf _ (List.getElem_mem (by omega : j < l.length)); omega) (by decide), bnd])
theorem copy_eq {s : LX.State} (h : Small s) : HY s = some s := by
  unfold HY
  rw [Fv (by have := h.frames; omega) (by decide), bnd, Oa h.cells h.fields, bnd]
  unfold Eg
  rw [Int.toNat_natCast]
  exact Gh (k := BB s s.cells) s.frames.length 0 (fun j h1 h2 nx => by
    unfold BA
    rw [rG (by omega), bnd, Fv (by have := h.regs _ (List.getElem_mem (by omega : j < s.frames.length)); omega) (by decide), bnd])
theorem room_le {α : Type} {bytes : Nat} {l m : List α} (h : l.length + m.length ≤ 100000) (hb : bytes ≤ 48) : Room bytes l m := by
  have : (l.length + m.length) * bytes ≤ 100000 * 48 := Nat.mul_le_mul h hb
  exact ⟨by omega, by omega⟩
theorem KJ (fr : List LX.Frame) (s : LX.State) : ∀ (l acc : List (List Val)), (∀ c ∈ l, c.length ≤ 4) → acc.length + l.length ≤ 24 → each iV (jQ fr s) l acc = some ⟨fr, acc ++ l, s.status, s.bB⟩
  | [], acc, _, _ => by simp [dZ, jQ]
  | x :: l, acc, h, hl => by
    rw [df]
    unfold iV
    have := h x (by simp)
    simp only [List.length_cons] at hl
    rw [mR (room_le (by simp; omega) (by decide)), mR (room_le (by simp; omega) (by decide))]
    have ih := KJ fr s l (acc ++ [([] : List Val) ++ x]) (fun c hc => h c (List.mem_cons_of_mem _ hc)) (by simp; omega)
    have e : iV = fun RV xM Iw => iA (Room 16 ([] : List Val) RV) (iA (Room 24 xM [(([] : List Val) ++ RV)]) (Iw (xM ++ [(([] : List Val) ++ RV)]))) := rfl
    rw [← e, ih]
    simp
theorem Ji (s : LX.State) (hc : s.cells.length ≤ 24 ∧ ∀ c ∈ s.cells, c.length ≤ 4) : ∀ (l acc : List LX.Frame), (∀ f ∈ l, f.regs.length ≤ 40) → acc.length + l.length ≤ 10 → each iW (iX s) l acc = some ⟨acc ++ l, s.cells, s.status, s.bB⟩
  | [], acc, _, _ => by
    rw [dZ, iX, KJ _ _ _ _ hc.2 (by simp; omega)]; simp
  | x :: l, acc, h, hl => by
    rw [df]
    have := h x (by simp)
    simp only [List.length_cons] at hl
    have ih := Ji s hc l (acc ++ [⟨x.proc, x.at_, ([] : List Val) ++ x.regs, x.ja⟩]) (fun c hc => h c (List.mem_cons_of_mem _ hc)) (by simp; omega)
    generalize each iW (iX s) l = K at ih ⊢
    unfold iW
    rw [mR (room_le (by simp; omega) (by decide)), mR (room_le (by simp; omega) (by decide)), ih]
    simp
theorem own_eq {s : LX.State} (h : Small s) : pK s = some s := by
  unfold pK
  rw [Ji s ⟨h.cells, h.fields⟩ s.frames [] h.regs (by simpa using h.frames)]; simp
end Go.Proofs.YtfclkapelkhlpaaGreatDoor
namespace Go.Proofs.YtfclkapelkhlpaaGreatDoor
open Go Go.Proofs Go.LX
def Em (l : List Int) (v : Val) : List Int := if v.kind = 2 ∧ v.n ∉ l then l ++ [v.n] else l
def En (l : List Int) (vs : List Val) : List Int := vs.foldl Em l
def cellAt (cells : List (List Val)) (k : Int) : List Val := (idx cells k).getD []
def Jj (cells : List (List Val)) : Nat → Nat → List Int → List Int
  | 0, _, l => l
  | m + 1, k, l => if h : k < l.length then Jj cells m (k + 1) (En l (cellAt cells l[k])) else l
def zT (cells : List (List Val)) (vs : List Val) : List Int := Jj cells 25 0 (En [] vs)
theorem AJ (l : List Int) (v : Val) (vs : List Val) : En l (v :: vs) = En (Em l v) vs := rfl
theorem VG (l : List Int) (v : Val) : l <+: Em l v := by
  unfold Em; split
  · exact List.prefix_append _ _
  · exact List.prefix_refl _
theorem AL : ∀ (vs : List Val) (l : List Int), l <+: En l vs
  | [], l => List.prefix_refl _
  | v :: vs, l => (VG l v).trans (AL vs _)
theorem QS (cells : List (List Val)) : ∀ (m k : Nat) (l : List Int), l <+: Jj cells m k l
  | 0, _, l => List.prefix_refl _
  | m + 1, k, l => by
    unfold Jj; split
    · exact (AL _ _).trans (QS cells m _ _)
    · exact List.prefix_refl _
theorem KL : ∀ (n : Nat) (l : List Int), l.Nodup → (∀ x ∈ l, 0 ≤ x ∧ x < n) → l.length ≤ n
  | 0, l, _, h => by
    cases l with
    | nil => simp
    | cons x l => have := h x (by simp); omega
  | n + 1, l, hn, h => by
    have h1 := KL n (l.erase (n : Int)) (hn.erase _) (fun x hx => by
      have h2 := (hn.mem_erase_iff).1 hx
      have := h x h2.2
      have h3 := h2.1
      constructor
      · omega
      · push_cast at this; omega)
    have h4 : l.length ≤ (l.erase (n : Int)).length + 1 := by rw [List.length_erase]; split <;> omega
    omega
def qy (n : Nat) (l : List Int) : Prop := l.Nodup ∧ ∀ x ∈ l, 0 ≤ x ∧ x < n
theorem qy.len {n : Nat} {l : List Int} (h : qy n l) : l.length ≤ n := KL n l h.1 h.2
theorem qy.nil {n : Nat} : qy n [] := ⟨List.nodup_nil, fun x hx => by cases hx⟩
theorem kV.ref {n : Nat} {v : Val} (h : kV n v) (hk : v.kind = 2) : 0 ≤ v.n ∧ v.n < n := by unfold kV at h; omega
theorem qy.v {n : Nat} {l : List Int} (h : qy n l) {v : Val} (hv : kV n v) : qy n (Em l v) := by
  unfold Em; split
  · rename_i hc
    refine ⟨List.nodup_append.2 ⟨h.1, by simp, fun a ha b hb => ?_⟩, fun x hx => ?_⟩
    · simp at hb; subst hb; intro e; subst e; exact hc.2 ha
    · rcases List.mem_append.1 hx with hx | hx
      · exact h.2 x hx
      · simp at hx; subst hx; exact hv.ref hc.1
  · exact h
theorem qy.l {n : Nat} : ∀ {vs : List Val} {l : List Int}, qy n l → (∀ v ∈ vs, kV n v) → qy n (En l vs)
  | [], l, h, _ => h
  | v :: vs, l, h, hv => qy.l (vs := vs) (l := Em l v) (h.v (hv v (by simp))) (fun w hw => hv w (List.mem_cons_of_mem _ hw))
theorem yQ {cells : List (List Val)} {k : Int} (h : 0 ≤ k ∧ k < cells.length) : idx cells k = some (cellAt cells k) ∧ cellAt cells k ∈ cells := by
  obtain ⟨n, rfl⟩ := Int.eq_ofNat_of_zero_le h.1
  unfold cellAt
  rw [rG (by omega)]
  exact ⟨rfl, List.getElem_mem _⟩
theorem oI.at {cells : List (List Val)} (h : oI cells) {k : Int} (hk : 0 ≤ k ∧ k < cells.length) : (1 ≤ (cellAt cells k).length ∧ (cellAt cells k).length ≤ 4) ∧ ∀ v ∈ cellAt cells k, kV cells.length v := h.2 _ (yQ hk).2
theorem qy.Jj {cells : List (List Val)} (hc : oI cells) : ∀ {m k : Nat} {l : List Int}, qy cells.length l → qy cells.length (Jj cells m k l)
  | 0, _, l, h => h
  | m + 1, k, l, h => by
    unfold Proofs.YtfclkapelkhlpaaGreatDoor.Jj; split
    · rename_i hk
      exact qy.Jj hc (h.l (hc.at (h.2 _ (List.getElem_mem hk))).2)
    · exact h
def jY (vs : List Val) (l : List Int) : Prop := ∀ v ∈ vs, v.kind = 2 → v.n ∈ l
theorem jY.pre {vs : List Val} {l m : List Int} (h : jY vs l) (hp : l <+: m) : jY vs m := fun v hv hk => hp.subset (h v hv hk)
theorem XG (l : List Int) (v : Val) (hk : v.kind = 2) : v.n ∈ Em l v := by
  unfold Em; split
  · simp
  · rename_i hc
    exact Decidable.not_not.1 (fun h => hc ⟨hk, h⟩)
theorem Ml : ∀ (vs : List Val) (l : List Int), jY vs (En l vs)
  | [], l, v, hv, _ => by cases hv
  | w :: vs, l, v, hv, hk => by
    rw [AJ]
    rcases List.mem_cons.1 hv with rfl | hv
    · exact (AL vs _).subset (XG l v hk)
    · exact Ml vs _ v hv hk
theorem VH {cells : List (List Val)} (hc : oI cells) : ∀ {m k : Nat} {l : List Int}, qy cells.length l → cells.length < k + m → (∀ j (hj : j < l.length), j < k → jY (cellAt cells l[j]) l) → ∀ x ∈ Jj cells m k l, jY (cellAt cells x) (Jj cells m k l)
  | 0, k, l, h, hm, hj, x, hx => by
    have := h.len
    obtain ⟨j, h1, rfl⟩ := List.getElem_of_mem hx
    exact hj j h1 (by have h1' : j < l.length := h1; omega)
  | m + 1, k, l, h, hm, hj, x, hx => by
    unfold Proofs.YtfclkapelkhlpaaGreatDoor.Jj at hx ⊢
    split at hx
    · rename_i hk
      rw [dif_pos hk]
      have hv := (hc.at (h.2 _ (List.getElem_mem hk))).2
      have hp := AL (cellAt cells l[k]) l
      refine VH hc (h.l hv) (by omega) (fun j h1 h2 => ?_) x hx
      by_cases e : j < l.length
      · have e1 : (En l (cellAt cells l[k]))[j] = l[j] := (hp.getElem e).symm
        rw [e1]
        by_cases e2 : j < k
        · exact (hj j e e2).pre hp
        · have : j = k := by omega
          subst this
          exact Ml _ _
      · omega
    · rename_i hk
      rw [dif_neg hk]
      obtain ⟨j, h1, rfl⟩ := List.getElem_of_mem hx
      exact hj j h1 (by omega)
theorem VI {cells : List (List Val)} (hc : oI cells) {vs : List Val} (hv : ∀ v ∈ vs, kV cells.length v) : qy cells.length (zT cells vs) ∧ jY vs (zT cells vs) ∧ ∀ x ∈ zT cells vs, jY (cellAt cells x) (zT cells vs) := by
  have h0 : qy cells.length (En [] vs) := qy.nil.l hv
  refine ⟨qy.Jj hc h0, (Ml vs []).pre (QS _ _ _ _), VH hc h0 (by have := hc.1; omega) (fun j h1 h2 => absurd h2 (Nat.not_lt_zero _))⟩
theorem Mm {α : Type} (k k' : Int) (v : α) : ∀ l : List (Int × α), lk k (Bl k' v l) = if k = k' then some v else lk k l
  | [] => by unfold Bl lk; by_cases h : k = k' <;> simp [h, lk]
  | p :: l => by
    unfold Bl
    by_cases h : k' = p.1
    · rw [if_pos h]
      show (if k = p.1 then some v else lk k l) = if k = k' then some v else (if k = p.1 then some p.2 else lk k l)
      by_cases e : k = p.1
      · rw [if_pos e, if_pos (by omega)]
      · rw [if_neg e, if_neg (by omega), if_neg e]
    · rw [if_neg h]
      show (if k = p.1 then some p.2 else lk k (Bl k' v l)) = if k = k' then some v else (if k = p.1 then some p.2 else lk k l)
      by_cases e : k = p.1
      · rw [if_pos e, if_pos e, if_neg (by omega)]
      · rw [if_neg e, if_neg e, Mm k k' v l]
def Seen (l : List Int) (m : List (Int × Bool)) : Prop := ∀ k, (lk k m).getD false = decide (k ∈ l)
theorem Seen.nil : Seen [] [] := fun k => rfl
theorem Seen.put {l : List Int} {m : List (Int × Bool)} (h : Seen l m) (n : Int) : Seen (l ++ [n]) (Bl n true m) := by
  intro k
  rw [Mm]
  by_cases e : k = n
  · simp [e]
  · rw [if_neg e, h k, Bool.eq_iff_iff]; simp [e]
theorem Fw {ρ : Type} {body : Val → List Int × List (Int × Bool) → (List Int × List (Int × Bool) → Option ρ) → Option ρ} {K : List Int × List (Int × Bool) → Option ρ}
    (hb : ∀ x l m nx, l.length ≤ 1000 → body x (l, m) nx = bif (decide (x.kind = 2) && (!((lk x.n m).getD false))) then nx (l ++ [x.n], Bl x.n true m) else nx (l, m)) :
    ∀ (vs : List Val) (l : List Int) (m : List (Int × Bool)), Seen l m → l.length + vs.length ≤ 1000 → ∃ m', Seen (En l vs) m' ∧ each body K vs (l, m) = K (En l vs, m')
  | [], l, m, h, _ => ⟨m, h, rfl⟩
  | v :: vs, l, m, h, hl => by
    simp only [List.length_cons] at hl
    rw [df, hb v l m _ (by omega), h v.n, AJ]
    unfold Em
    by_cases hc : v.kind = 2 ∧ v.n ∉ l
    · rw [if_pos hc, dT hc.1, dF hc.2, Bool.true_and, Bool.not_false, cond_true]
      exact Fw hb vs _ _ (h.put v.n) (by simp; omega)
    · rw [if_neg hc, show (decide (v.kind = 2) && !decide (v.n ∈ l)) = false by rw [Bool.and_eq_false_iff]; simp; simp only [not_and, Decidable.not_not] at hc; by_cases e : v.kind = 2 <;> simp [e, hc], cond_false]
      exact Fw hb vs _ _ h (by omega)
theorem Ob {cells : List (List Val)} (hc : oI cells) : ∀ (m N k : Nat) (l : List Int) (s : List (Int × Bool)), qy cells.length l → Seen l s → cells.length < k + m → m < N → k ≤ l.length → again (oo cells) N ((k : Int), l, s) = some (Jj cells m k l, 0)
  | m, 0, k, l, s, h, hs, hm, hN, hk => by omega
  | 0, N + 1, k, l, s, h, hs, hm, hN, hk => by have := h.len; omega
  | m + 1, N + 1, k, l, s, h, hs, hm, hN, hk => by
    rw [oH]
    unfold oo Proofs.YtfclkapelkhlpaaGreatDoor.Jj
    simp only
    have hl := h.len
    have hn := hc.1
    by_cases hlt : k < l.length
    · rw [dT (by omega), cond_true, rG hlt, bnd, dif_pos hlt]
      have hr := h.2 _ (List.getElem_mem hlt)
      have hv := hc.at hr
      rw [(yQ hr).1, bnd]
      have e0 : (fun (s : Int × List Int × List (Int × Bool)) (NI : Int × List Int × List (Int × Bool) → Option (List Int × Int)) => match s with | (IW, xx, MF) => bif decide ((IW : Int) < (xx.length : Int)) then (idx xx IW).bind fun Ym => (idx cells Ym).bind fun x87 => each qm (qo IW NI) x87 (xx, MF) else some (xx, 0)) = oo cells := rfl
      rw [e0]
      obtain ⟨s', h1, h2⟩ := Fw (body := qm) (K := qo (k : Int) (again (oo cells) N)) (fun x l m nx hl => by
        unfold qm
        simp only [vY]
        cases (decide (x.kind = 2) && (!((lk x.n m).getD false))) with
        | false => rfl
        | true => rw [cond_true, cond_true, mR (room_le (by simp; omega) (by decide))]) (cellAt cells l[k]) l s hs (by have := hv.1.2; omega)
      rw [h2]
      unfold qo
      simp only
      rw [gI (by omega) (by omega)]
      have hp := (AL (cellAt cells l[k]) l).length_le
      exact Ob hc m N (k + 1) _ s' (h.l hv.2) h1 (by omega) (by omega) (by omega)
    · rw [dF (by omega), cond_false, dif_neg hlt]
theorem VJ {N : Nat} (hN : 100 ≤ N) {cells : List (List Val)} (hc : oI cells) {vs : List Val} (hv : ∀ v ∈ vs, kV cells.length v) (hl : vs.length ≤ 400) : BC N cells vs = some (zT cells vs, 0) := by
  unfold BC
  rw [(PK cells).2 hc, dF (by simp), cond_false, dF (by omega), cond_false]
  have k1 : ∀ l : List Val, (∀ v ∈ l, kV cells.length v) → each (sK cells) (qp N cells vs) l () = qp N cells vs () := by
    intro l
    induction l with
    | nil => intro _; rfl
    | cons x l ih =>
      intro h
      rw [df]
      unfold sK
      rw [(CU _ _).2 (h x (by simp)), dF (by simp), cond_false]
      exact ih (fun v hv => h v (List.mem_cons_of_mem _ hv))
  rw [k1 vs hv]
  unfold qp
  obtain ⟨s', h1, h2⟩ := Fw (body := sJ) (K := vZ N cells) (fun x l m nx hl => by
    unfold sJ
    simp only [vX]
    cases (decide (x.kind = 2) && (!((lk x.n m).getD false))) with
    | false => rfl
    | true => rw [cond_true, cond_true, mR (room_le (by simp; omega) (by decide))]) vs [] [] Seen.nil (by simp; omega)
  rw [h2]
  exact Ob hc 25 N 0 _ s' (qy.nil.l hv) h1 (by have := hc.1; omega) (by omega) (by omega)
theorem Eo (a : List Int) (b : Int) : ∀ (m i : Nat), i + m = a.length → upto (jD a b) mf (i : Int) m () = some (match (a.drop i).findIdx? (fun x => decide (b = x)) with | some j => ((i + j : Nat) : Int) | none => -1)
  | 0, i, h => by
    rw [show a.drop i = [] from List.drop_eq_nil_of_le (by omega)]; rfl
  | m + 1, i, h => by
    rw [AB]
    have ih := Eo a b m (i + 1) (by omega)
    unfold jD
    rw [rG (by omega), bnd, List.drop_eq_getElem_cons (by omega : i < a.length), List.findIdx?_cons]
    by_cases e : b = a[i]
    · rw [dT e, cond_true]; simp
    · rw [dF e, cond_false]
      have e0 : (fun (i2 : Int) (s : Unit) (GD : Unit → Option Int) => (idx a i2).bind fun x8 => bif decide ((b : Int) = x8) then some i2 else GD ()) = jD a b := rfl
      rw [e0, show ((i : Int) + 1) = ((i + 1 : Nat) : Int) by omega, ih]
      cases (a.drop (i + 1)).findIdx? (fun x => decide (b = x)) with
      | none => rfl
      | some j => simp only [dF e, Bool.false_eq_true, if_false, Option.map_some]; rw [show i + 1 + j = i + (j + 1) by omega]
theorem Gi {a : List Int} {b : Int} (h : b ∈ a) : slices_Index_int a b = some (a.idxOf b : Int) := by
  unfold slices_Index_int
  rw [Int.toNat_natCast]
  have := Eo a b a.length 0 (by omega)
  rw [List.drop_zero] at this
  have e : a.findIdx? (fun x => decide (b = x)) = some (a.idxOf b) := by
    rw [List.findIdx?_eq_some_iff_findIdx_eq]
    have h2 : a.findIdx (fun x => decide (b = x)) = a.idxOf b := by
      unfold List.idxOf
      congr 1
      funext x
      rw [Bool.eq_iff_iff]; simp; exact ⟨fun h => h.symm, fun h => h.symm⟩
    exact ⟨List.idxOf_lt_length_of_mem h, h2⟩
  rw [e] at this
  simpa using this
theorem contains_eq (a : List Int) (b : Int) : slices_Contains_int a b = some (decide (b ∈ a)) := by
  unfold slices_Contains_int
  by_cases h : b ∈ a
  · rw [Gi h, bnd, dT (by omega), dT h]
  · unfold slices_Index_int
    have := Eo a b a.length 0 (by omega)
    rw [List.drop_zero] at this
    have e : a.findIdx? (fun x => decide (b = x)) = none := by
      rw [List.findIdx?_eq_none_iff]
      intro x hx; simp; intro e; subst e; exact h hx
    rw [e] at this
    rw [Int.toNat_natCast]
    have h2 : upto (jD a b) mf 0 a.length () = some (-1) := this
    rw [h2, bnd, dF (by omega), dF h]
theorem CX {ρ : Type} {K : List Int → Option (List Int)} : ∀ (vs : List Val) (l : List Int), l.length + vs.length ≤ 1000 → each jP K vs l = K (En l vs)
  | [], l, _ => rfl
  | v :: vs, l, hl => by
    simp only [List.length_cons] at hl
    rw [df, AJ]
    generalize hK : each jP K vs = K1
    unfold jP Em
    simp only [pJ, pI, contains_eq, bnd]
    by_cases h2 : v.kind = 2
    · rw [dT h2, cond_true]
      by_cases h3 : v.n ∈ l
      · rw [dT h3, Bool.not_true, cond_false, if_neg (fun h => h.2 h3), ← hK]
        exact CX (ρ := ρ) vs l (by omega)
      · rw [dF h3, Bool.not_false, cond_true, if_pos ⟨h2, h3⟩, mR (room_le (by simp; omega) (by decide)), ← hK]
        exact CX (ρ := ρ) vs _ (by simp; omega)
    · rw [dF h2, cond_false, cond_false, if_neg (fun h => h2 h.1), ← hK]
      exact CX (ρ := ρ) vs l (by omega)
theorem GL {cells : List (List Val)} (hc : oI cells) : ∀ (m N k : Nat) (l : List Int) (w : List Val), qy cells.length l → cells.length < k + m → m < N → k ≤ l.length → again (iF cells) N (l, w, (k : Int)) = some (Jj cells m k l)
  | m, 0, k, l, w, h, hm, hN, hk => by omega
  | 0, N + 1, k, l, w, h, hm, hN, hk => by have := h.len; omega
  | m + 1, N + 1, k, l, w, h, hm, hN, hk => by
    rw [oH]
    generalize hK : again (iF cells) N = K
    unfold iF Proofs.YtfclkapelkhlpaaGreatDoor.Jj
    simp only
    have hl := h.len
    have hn := hc.1
    by_cases hlt : k < l.length
    · rw [dT (by omega), cond_true, dT (by omega), cond_true, rG hlt, bnd, dif_pos hlt]
      have hr := h.2 _ (List.getElem_mem hlt)
      have hv := hc.at hr
      rw [(yQ hr).1, bnd]
      unfold lL
      rw [CX (ρ := Unit) _ _ (by have := hv.1.2; omega)]
      unfold lK
      rw [gI (by omega) (by omega), ← hK]
      have hp := (AL (cellAt cells l[k]) l).length_le
      exact GL hc m N (k + 1) _ _ (h.l hv.2) (by omega) (by omega) (by omega)
    · rw [dF (by omega), cond_false, dif_neg hlt]
theorem met_eq {N : Nat} (hN : 100 ≤ N) {cells : List (List Val)} (hc : oI cells) {vs : List Val} (hv : ∀ v ∈ vs, kV cells.length v) (hl : vs.length ≤ 400) : uA N cells vs = some (zT cells vs) := by
  unfold uA
  obtain ⟨M, rfl⟩ : ∃ M, N = M + 1 := ⟨N - 1, by omega⟩
  rw [oH]
  generalize hK : again (iF cells) M = K
  unfold iF
  simp only
  rw [dT (by simp), cond_true, dF (by simp), cond_false]
  unfold lL
  rw [CX (ρ := Unit) _ _ (by simp; omega)]
  unfold lK
  rw [gI (by omega) (by omega), ← hK]
  exact GL hc 25 M 0 _ _ (qy.nil.l hv) (by have := hc.1; omega) (by omega) (by omega)
end Go.Proofs.YtfclkapelkhlpaaGreatDoor
namespace Go.Proofs.YtfclkapelkhlpaaGreatDoor
open Go Go.Proofs Go.LX
def ren (l : List Int) (v : Val) : Val := if v.kind = 2 then ⟨v.kind, (l.idxOf v.n : Nat)⟩ else v
def He (l : List Int) (f : LX.Frame) : LX.Frame := { f with regs := f.regs.map (ren l) }
def roots (fr : List LX.Frame) : List Val := fr.flatMap (·.regs)
def qz (s : LX.State) : List Int := zT s.cells (roots s.frames)
def sN (s : LX.State) : LX.State := ⟨s.frames.map (He (qz s)), (qz s).map (fun k => (cellAt s.cells k).map (ren (qz s))), s.status, s.bB⟩
structure Jk (s : LX.State) : Prop where
  small : Small s
  cells : oI s.cells
  vals : ∀ f ∈ s.frames, ∀ v ∈ f.regs, kV s.cells.length v
theorem Je.sw {a : List cz} {s : LX.State} (h : Je a s) (ha : BJ a) : Jk s where
  small := h.small ha
  cells := h.cells
  vals f hf := by obtain ⟨x, g⟩ := wz h.frames f hf; exact g.vals
theorem Jk.roots {s : LX.State} (h : Jk s) : ∀ v ∈ roots s.frames, kV s.cells.length v := by
  intro v hv
  unfold YtfclkapelkhlpaaGreatDoor.roots at hv
  obtain ⟨f, hf, hv⟩ := List.mem_flatMap.1 hv
  exact h.vals f hf v hv
theorem R9 (fr : List LX.Frame) (h : ∀ f ∈ fr, f.regs.length ≤ 40) : (roots fr).length ≤ 40 * fr.length := by
  induction fr with
  | nil => simp [roots]
  | cons f l ih =>
    have := h f (by simp)
    have := ih (fun g hg => h g (List.mem_cons_of_mem _ hg))
    unfold roots at *
    rw [List.flatMap_cons, List.length_append, List.length_cons]; omega
theorem Jk.XH {s : LX.State} (h : Jk s) : (YtfclkapelkhlpaaGreatDoor.roots s.frames).length ≤ 400 := by
  have := R9 s.frames h.small.regs
  have := h.small.frames
  omega
theorem Jk.reach {s : LX.State} (h : Jk s) : qy s.cells.length (qz s) ∧ jY (YtfclkapelkhlpaaGreatDoor.roots s.frames) (qz s) ∧ ∀ x ∈ qz s, jY (cellAt s.cells x) (qz s) := VI h.cells h.roots
theorem Oc {α ρ : Type} {body : Int → List α → (List α → Option ρ) → Option ρ} {K : List α → Option ρ} {g : α → α} {P : α → Prop}
    (hb : ∀ (i : Nat) (x : List α) a nx, x[i]? = some a → P a → body (i : Int) x nx = nx (x.set i (g a))) :
    ∀ (l2 l1 : List α), (∀ a ∈ l2, P a) → upto body K (l1.length : Int) l2.length (l1 ++ l2) = K (l1 ++ l2.map g)
  | [], l1, _ => by simp [upto]
  | a :: l2, l1, h => by
    rw [List.length_cons, AB, hb l1.length (l1 ++ a :: l2) a _ (by simp) (h a (by simp))]
    have := Oc (K := K) hb l2 (l1 ++ [g a]) (fun b hb => h b (List.mem_cons_of_mem _ hb))
    rw [show (l1 ++ a :: l2).set l1.length (g a) = (l1 ++ [g a]) ++ l2 by simp, show ((l1.length : Int) + 1) = ((l1 ++ [g a]).length : Nat) by simp, this]
    simp
theorem AO {α ρ : Type} {body : Int → List α → (List α → Option ρ) → Option ρ} {K : List α → Option ρ} {g : α → α} {P : α → Prop}
    (hb : ∀ (i : Nat) (x : List α) a nx, x[i]? = some a → P a → body (i : Int) x nx = nx (x.set i (g a))) (l : List α) (hp : ∀ a ∈ l, P a) : upto body K 0 l.length l = K (l.map g) := by
  have := Oc (K := K) hb l [] hp
  simpa using this
def Jl (l : List Int) (m : List (Int × Int)) : Prop := ∀ k, lk k m = if k ∈ l then some ((l.idxOf k : Nat) : Int) else none
theorem QT {l : List Int} {m : List (Int × Int)} (h : Jl l m) (vs : List Val) (hr : jY vs l) : IX vs m = some (vs.map (ren l)) := by
  unfold IX
  rw [Int.toNat_natCast]
  refine AO (P := fun v => v.kind = 2 → v.n ∈ l) (fun i x a nx hx hp => ?_) vs (fun v hv => hr v hv)
  unfold Dr Dq
  rw [o8, hx, bnd]
  by_cases hk : a.kind = 2
  · rw [dT hk, cond_true, h a.n, if_pos (hp hk)]
    simp [ren, hk]
  · rw [dF hk, cond_false]
    have : x.set i a = x := by
      obtain ⟨h1, rfl⟩ := List.getElem?_eq_some_iff.1 hx
      exact List.set_getElem_self h1
    simp [ren, hk, this]
theorem Jm {s : LX.State} (hc : oI s.cells) {K : List (List Val) × List Int × List (Int × Int) → Option LX.State} : ∀ (l2 l1 : List Int) (m : List (Int × Int)), qy s.cells.length (l1 ++ l2) → Jl l1 m →
    ∃ m', Jl (l1 ++ l2) m' ∧ dQ (rq s) K (l1.length : Int) l2 (l1.map (cellAt s.cells), l1, m) = K ((l1 ++ l2).map (cellAt s.cells), l1 ++ l2, m')
  | [], l1, m, _, h => ⟨m, by simpa using h, by simp [dQ]⟩
  | k :: l2, l1, m, hm, h => by
    have e1 : l1 ++ k :: l2 = (l1 ++ [k]) ++ l2 := by simp
    have hk : k ∉ l1 := by
      intro hk
      exact (List.nodup_append.1 hm.1).2.2 k hk k (by simp) rfl
    have hl := hm.len
    have hn := hc.1
    simp only [List.length_append, List.length_cons] at hl
    have hr := hm.2 k (by simp)
    rw [jC]
    obtain ⟨m', h1, h2⟩ := Jm hc (K := K) l2 (l1 ++ [k]) (Bl k (l1.length : Int) m) (by rw [← e1]; exact hm) (fun q => by
      rw [Mm]
      by_cases e : q = k
      · subst e
        rw [if_pos rfl, if_pos (by simp), List.idxOf_append, if_neg hk]
        simp
      · rw [if_neg e, h q]
        by_cases hq : q ∈ l1
        · rw [if_pos hq, if_pos (by simp [hq]), List.idxOf_append, if_pos hq]
        · rw [if_neg hq, if_neg (by simp [hq, e])])
    refine ⟨m', by rw [e1]; exact h1, ?_⟩
    have hlen : (((l1 ++ [k]).length : Nat) : Int) = (l1.length : Int) + 1 := by simp
    rw [hlen] at h2
    rw [e1, ← h2]
    generalize dQ (rq s) K ((l1.length : Int) + 1) l2 = K1
    unfold rq
    simp only
    rw [(yQ hr).1, bnd, mR hk, mR (room_le (by simp; omega) (by decide)), List.map_append]
    rfl
theorem Mo {l : List Int} {m : List (Int × Int)} (h : Jl l m) (K : List LX.Frame → Option LX.State) (fr : List LX.Frame) (hr : ∀ f ∈ fr, jY f.regs l) : upto (wm m) K 0 fr.length fr = K (fr.map (He l)) :=
  AO (P := fun f => jY f.regs l) (fun i x a nx hx hp => by
    unfold wm
    rw [o8, hx, bnd, QT h a.regs hp, bnd]
    simp [He]) fr hr
theorem Od {l : List Int} {m : List (Int × Int)} (h : Jl l m) (K : List (List Val) → Option LX.State) (cs : List (List Val)) (hr : ∀ c ∈ cs, jY c l) : upto (xJ m) K 0 cs.length cs = K (cs.map (fun c => c.map (ren l))) :=
  AO (P := fun c => jY c l) (fun i x a nx hx hp => by
    unfold xJ
    rw [o8, hx, bnd, QT h a hp, bnd]
    simp) cs hr
theorem KM {K : List Val → Option LX.State} : ∀ (fr : List LX.Frame) (acc : List Val), acc.length + (roots fr).length ≤ 1000 → each tK K fr acc = K (acc ++ roots fr)
  | [], acc, _ => by simp [dZ, roots]
  | f :: fr, acc, h => by
    have e : roots (f :: fr) = f.regs ++ roots fr := rfl
    rw [e, List.length_append] at h
    rw [df]
    have ih := KM (K := K) fr (acc ++ f.regs) (by simp; omega)
    generalize each tK K fr = K1 at ih ⊢
    unfold tK
    rw [mR (room_le (by omega) (by decide)), ih, e, List.append_assoc]
theorem Jn {fr : List LX.Frame} {l : List Int} (h : jY (roots fr) l) : ∀ f ∈ fr, jY f.regs l := fun f hf v hv hk => h v (List.mem_flatMap.2 ⟨f, hf, hv⟩) hk
theorem Oe {N : Nat} (hN : 100 ≤ N) {s : LX.State} (h : Jk s) : Av N s = some (sN s) := by
  have hr := h.reach
  unfold Av
  rw [KM s.frames [] (by have := h.XH; simp; omega), List.nil_append]
  unfold yx
  rw [VJ hN h.cells h.roots h.XH, bnd, dF (by simp), cond_false, copy_eq h.small, bnd]
  have e : zT s.cells (roots s.frames) = qz s := rfl
  simp only [e]
  obtain ⟨m', h1, h2⟩ := Jm h.cells (K := tJ s) (qz s) [] [] (by simpa using hr.1) (fun k => by simp [lk])
  have h2' : dQ (rq s) (tJ s) 0 (qz s) ([], ([] : List Int), ([] : List (Int × Int))) = _ := h2
  rw [h2']
  simp only [List.nil_append] at h1 ⊢
  unfold tJ
  simp only [Int.toNat_natCast]
  rw [Mo h1 _ _ (Jn hr.2.1)]
  unfold yw
  rw [Int.toNat_natCast, Od h1 _ _ (fun c hc => by
    obtain ⟨k, hk, rfl⟩ := List.mem_map.1 hc
    exact hr.2.2 k hk)]
  unfold yu sN
  rw [List.map_map]; rfl
theorem XI {l : List Int} {v : Val} (h : v.kind = 2 → v.n ∈ l) : pM v l = some (ren l v) := by
  unfold pM lU ren
  by_cases hk : v.kind = 2
  · rw [dT hk, cond_true, Gi (h hk), bnd, if_pos hk]
  · rw [dF hk, cond_false, if_neg hk]
theorem VK {l : List Int} (K : List Val → Option LX.State) (vs : List Val) (hr : jY vs l) : upto (kT l) K 0 vs.length vs = K (vs.map (ren l)) :=
  AO (P := fun v => v.kind = 2 → v.n ∈ l) (fun i x a nx hx hp => by
    unfold kT
    rw [o8, hx, bnd, XI hp, bnd]
    simp) vs (fun v hv => hr v hv)
theorem PN {l : List Int} (K : List LX.Frame → Option LX.State) (fr : List LX.Frame) (hr : ∀ f ∈ fr, jY f.regs l) : upto (kE l) K 0 fr.length fr = K (fr.map (He l)) :=
  AO (P := fun f => jY f.regs l) (fun i x a nx hx hp => by
    unfold kE
    rw [o8, hx, bnd, Int.toNat_natCast, VK _ _ hp]
    unfold oG
    simp [He]) fr hr
theorem Og {l : List Int} (K : List Val → Option LX.State) : ∀ (vs acc : List Val), jY vs l → acc.length + vs.length ≤ 1000 → each (iJ l) K vs acc = K (acc ++ vs.map (ren l))
  | [], acc, _, _ => by simp [dZ]
  | v :: vs, acc, hr, hl => by
    simp only [List.length_cons] at hl
    rw [df]
    have ih := Og K vs (acc ++ [ren l v]) (fun w hw => hr w (List.mem_cons_of_mem _ hw)) (by simp; omega)
    generalize each (iJ l) K vs = K1 at ih ⊢
    have e : iJ l v acc K1 = K1 (acc ++ [ren l v]) := by
      unfold iJ mq ren
      by_cases hk : v.kind = 2
      · rw [dT hk, cond_true, Gi (hr v (by simp) hk), bnd, if_pos hk, mR (room_le (by simp; omega) (by decide))]
      · rw [dF hk, cond_false, if_neg hk, mR (room_le (by simp; omega) (by decide))]
    rw [e, ih]; simp
theorem KN {s : LX.State} (hc : oI s.cells) {l : List Int} (hl : qy s.cells.length l) (hr : ∀ x ∈ l, jY (cellAt s.cells x) l) (K : List (List Val) → Option LX.State) :
    ∀ (m i : Nat) (acc : List (List Val)), i + m = l.length → acc.length = i → upto (iK l s) K (i : Int) m acc = K (acc ++ (l.drop i).map (fun k => (cellAt s.cells k).map (ren l)))
  | 0, i, acc, h, _ => by rw [show l.drop i = [] from List.drop_eq_nil_of_le (by omega)]; simp [upto]
  | m + 1, i, acc, h, ha => by
    rw [AB]
    have hi : i < l.length := by omega
    have hk := hl.2 _ (List.getElem_mem hi)
    have ih := KN hc hl hr K m (i + 1) (acc ++ [(cellAt s.cells l[i]).map (ren l)]) (by omega) (by simp; omega)
    rw [show (((i + 1 : Nat)) : Int) = (i : Int) + 1 by omega] at ih
    generalize upto (iK l s) K ((i : Int) + 1) m = K1 at ih ⊢
    unfold iK
    have h4 := (hc.at hk).1.2
    have h5 := hl.len
    have h6 := hc.1
    rw [rG hi, bnd, (yQ hk).1, bnd, Og _ _ _ (hr _ (List.getElem_mem hi)) (by simp; omega)]
    unfold mr
    rw [List.nil_append, mR (room_le (by simp; omega) (by decide)), ih, List.drop_eq_getElem_cons hi, List.map_cons]
    simp only [List.append_assoc, List.cons_append, List.nil_append]
theorem Oh {K : List Val → Option LX.State} : ∀ (fr : List LX.Frame) (acc : List Val), acc.length + (roots fr).length ≤ 1000 → each jy K fr acc = K (acc ++ roots fr)
  | [], acc, _ => by simp [dZ, roots]
  | f :: fr, acc, h => by
    have e : roots (f :: fr) = f.regs ++ roots fr := rfl
    rw [e, List.length_append] at h
    rw [df]
    have ih := Oh (K := K) fr (acc ++ f.regs) (by simp; omega)
    generalize each jy K fr = K1 at ih ⊢
    unfold jy
    rw [mR (room_le (by omega) (by decide)), ih, e, List.append_assoc]
theorem Oi {N : Nat} (hN : 100 ≤ N) {s : LX.State} (h : Jk s) : lV N s = some (sN s) := by
  have hr := h.reach
  unfold lV
  rw [Oh s.frames [] (by have := h.XH; simp; omega), List.nil_append]
  unfold mE
  rw [met_eq hN h.cells h.roots h.XH, bnd, own_eq h.small, bnd]
  have e : zT s.cells (roots s.frames) = qz s := rfl
  rw [e, Int.toNat_natCast, PN _ _ (Jn hr.2.1)]
  unfold mD
  rw [Int.toNat_natCast]
  have := KN h.cells hr.1 hr.2.2 (kD (s.frames.map (He (qz s))) s) (qz s).length 0 [] (by omega) rfl
  have h2 : upto (iK (qz s) s) (kD (s.frames.map (He (qz s))) s) 0 (qz s).length [] = _ := this
  rw [h2]
  rfl
end Go.Proofs.YtfclkapelkhlpaaGreatDoor
namespace Go.Proofs.YtfclkapelkhlpaaGreatDoor
open Go Go.Proofs Go.LX
theorem kV.int {n : Nat} {v : Val} (h : kV n v) (hk : v.kind = 1) : -1000000000 ≤ v.n ∧ v.n ≤ 1000000000 := by unfold kV at h; omega
end Go.Proofs.YtfclkapelkhlpaaGreatDoor
namespace Go.Proofs.YtfclkapelkhlpaaGreatDoor
open Go Go.Proofs Go.LX
theorem DV {a : List cz} {n : Nat} {f : LX.Frame} : ∀ {l : List LX.Frame} {t : Int}, kF a n t (l ++ [f]) ↔ kF a n t l ∧ (∃ x, CV a n f x) ∧ (0 ≤ f.ja ∧ f.ja < (match l.getLast? with | none => t | some g => g.regs.length))
  | [], t => by simp [kF]
  | g :: l, t => by
    show ((∃ x, CV a n g x) ∧ (0 ≤ g.ja ∧ g.ja < t) ∧ kF a n g.regs.length (l ++ [f])) ↔ _
    rw [DV (l := l)]
    have e : (match (g :: l).getLast? with | none => t | some g => ((g.regs.length : Int))) = (match l.getLast? with | none => ((g.regs.length : Int)) | some g => (g.regs.length : Int)) := by
      rw [List.getLast?_cons]
      cases l.getLast? <;> rfl
    rw [e]
    simp only [kF, and_assoc]
structure QU (a : List cz) (pre : List LX.Frame) (f : LX.Frame) (cells : List (List Val)) (x : cz) (c : Ins) : Prop where
  fr : CV a cells.length f x
  ins : idx x.code f.at_ = some c
  good : Ce a x.regs x.code.length c
  chain : kF a cells.length 1 pre
  ja : 0 ≤ f.ja ∧ f.ja < ahead pre
  many : pre.length + 1 ≤ 10
  cok : oI cells
  proc : (1 ≤ x.regs ∧ x.regs ≤ 40) ∧ w9 x
theorem QU.sw {a : List cz} {pre : List LX.Frame} {f : LX.Frame} {cells : List (List Val)} {x : cz} {c : Ins} (ha : BJ a) (h : QU a pre f cells x c) {st wh : Int} {g : LX.Frame} (hg : CV a cells.length g x) : Jk ⟨pre ++ [g], cells, st, wh⟩ where
  small := ⟨by have := h.many; simp; omega, fun k hk => by
    rcases List.mem_append.1 hk with hk | hk
    · obtain ⟨y, hy⟩ := wz h.chain k hk
      have := hy.regs
      have := (ha.mem hy.proc).2.2.1
      omega
    · simp at hk; subst hk
      have := hg.regs
      have := h.proc.1
      omega, h.cok.1, fun c hc => (h.cok.2 c hc).1.2⟩
  cells := h.cok
  vals k hk := by
    rcases List.mem_append.1 hk with hk | hk
    · obtain ⟨y, hy⟩ := wz h.chain k hk
      exact hy.vals
    · simp at hk; subst hk; exact hg.vals
end Go.Proofs.YtfclkapelkhlpaaGreatDoor
namespace Go.Proofs.YtfclkapelkhlpaaGreatDoor
open Go Go.Proofs Go.LX
theorem kV.up {n m : Nat} {v : Val} (h : kV n v) (hm : n ≤ m) : kV m v := by unfold kV at *; omega
theorem CV.up {a : List cz} {n m : Nat} {f : LX.Frame} {x : cz} (h : CV a n f x) (hm : n ≤ m) : CV a m f x := ⟨h.proc, h.at_, h.regs, fun v hv => (h.vals v hv).up hm⟩
theorem GM {a : List cz} {n m : Nat} (hm : n ≤ m) : ∀ {l : List LX.Frame} {t : Int}, kF a n t l → kF a m t l
  | [], _, _ => trivial
  | f :: l, t, h => by obtain ⟨⟨x, g⟩, h2, h3⟩ := h; exact ⟨⟨x, g.up hm⟩, h2, GM hm h3⟩
theorem VL {n : Nat} {l : List Int} {v : Val} (h : kV n v) (hr : v.kind = 2 → v.n ∈ l) : kV l.length (ren l v) := by
  unfold ren
  by_cases hk : v.kind = 2
  · rw [if_pos hk]
    have := List.idxOf_lt_length_of_mem (hr hk)
    unfold kV
    simp only
    omega
  · rw [if_neg hk]; unfold kV at *; omega
theorem CV.ren {a : List cz} {n : Nat} {l : List Int} {f : LX.Frame} {x : cz} (h : CV a n f x) (hr : jY f.regs l) : CV a l.length (He l f) x where
  proc := h.proc
  at_ := h.at_
  regs := by unfold He; simpa using h.regs
  vals v hv := by
    unfold He at hv
    simp only [List.mem_map] at hv
    obtain ⟨w, hw, rfl⟩ := hv
    exact VL (h.vals w hw) (hr w hw)
theorem Fx {a : List cz} {n : Nat} {r : List Int} : ∀ {l : List LX.Frame} {t : Int}, kF a n t l → (∀ f ∈ l, jY f.regs r) → kF a r.length t (l.map (He r))
  | [], _, _, _ => trivial
  | f :: l, t, h, hr => by
    obtain ⟨⟨x, g⟩, h2, h3⟩ := h
    refine ⟨⟨x, g.ren (hr f (by simp))⟩, h2, ?_⟩
    have := Fx h3 (fun k hk => hr k (List.mem_cons_of_mem _ hk))
    simpa [He] using this
theorem Oj {s : LX.State} (h : Jk s) : oI (sN s).cells := by
  have hr := h.reach
  have hl := hr.1.len
  have hn := h.cells.1
  refine ⟨by simp [sN]; omega, fun c hc => ?_⟩
  unfold sN at hc ⊢
  simp only [List.mem_map, List.length_map] at hc ⊢
  obtain ⟨k, hk, rfl⟩ := hc
  have hk2 := h.cells.at (hr.1.2 k hk)
  refine ⟨by simpa using hk2.1, fun v hv => ?_⟩
  obtain ⟨w, hw, rfl⟩ := List.mem_map.1 hv
  exact VL (hk2.2 w hw) (hr.2.2 k hk w hw)
theorem VM {a : List cz} (ha : BJ a) {s : LX.State} (h : Je a s) : Je a (sN s) where
  status := h.status
  bB := h.bB
  stay := h.stay
  ended := by rw [show (sN s).status = s.status from rfl, h.ended]; simp [sN]
  many := by simpa [sN] using h.many
  cells := Oj (h.sw ha)
  frames := by
    have hr := (h.sw ha).reach
    have := Fx h.frames (Jn hr.2.1)
    simpa [sN] using this
theorem VN {n : Nat} {r : List Val} {i : Nat} {v : Val} (h : ∀ w ∈ r, kV n w) (hv : kV n v) : ∀ w ∈ r.set i v, kV n w := fun w hw => by
  rcases List.mem_or_eq_of_mem_set hw with hw | rfl
  · exact h w hw
  · exact hv
section
variable {a : List cz} {pre : List LX.Frame} {f : LX.Frame} {cells : List (List Val)} {wh : Int} {x : cz} {c : Ins} {N : Nat}
theorem QU.st (h : QU a pre f cells x c) {g : LX.Frame} {y : cz} {cs : List (List Val)} {s w : Int} (hg : CV a cs.length g y) (hto : g.ja = f.ja) (hc : oI cs) (hl : cells.length ≤ cs.length) (hs : (s = 0 ∧ w = 0) ∨ (s = 3 ∧ -1000000000 ≤ w ∧ w ≤ 1000000000)) : Je a ⟨pre ++ [g], cs, s, w⟩ where
  status := by simp only; omega
  bB := by simp only; omega
  stay := by simp only; omega
  ended := by simp; omega
  many := by have := h.many; simp; omega
  cells := hc
  frames := DV.2 ⟨GM hl h.chain, ⟨y, hg⟩, by rw [hto]; exact h.ja⟩
theorem CV.put {n : Nat} {f : LX.Frame} {x : cz} (h : CV a n f x) {i : Nat} {v : Val} (hv : kV n v) : CV a n { f with regs := f.regs.set i v } x := ⟨h.proc, h.at_, by simpa using h.regs, VN h.vals hv⟩
end
end Go.Proofs.YtfclkapelkhlpaaGreatDoor
namespace Go.Proofs.YtfclkapelkhlpaaGreatDoor
open Go Go.Proofs Go.LX
theorem KO (s : LX.State) : gp s s = some true := by rw [N9, dT rfl]
end Go.Proofs.YtfclkapelkhlpaaGreatDoor
namespace Go.Proofs.YtfclkapelkhlpaaGreatDoor
open Go Go.Proofs Go.LX
def Ol (ρ : Int → Int) (v : Val) : Val := if v.kind = 2 then ⟨v.kind, ρ v.n⟩ else v
def VO (ρ : Int → Int) (f : LX.Frame) : LX.Frame := { f with regs := f.regs.map (Ol ρ) }
structure YB (ρ : Int → Int) (R : List Int) (s t : LX.State) : Prop where
  frames : t.frames = s.frames.map (VO ρ)
  status : t.status = s.status
  bB : t.bB = s.bB
  roots : jY (YtfclkapelkhlpaaGreatDoor.roots s.frames) R
  range : ∀ x ∈ R, 0 ≤ x ∧ x < s.cells.length
  range' : ∀ x ∈ R, 0 ≤ ρ x ∧ ρ x < t.cells.length
  inj : ∀ x ∈ R, ∀ y ∈ R, ρ x = ρ y → x = y
  cells : ∀ x ∈ R, cellAt t.cells (ρ x) = (cellAt s.cells x).map (Ol ρ) ∧ jY (cellAt s.cells x) R
theorem VP (ρ : Int → Int) {v : Val} (h : v.kind = 2) : Ol ρ v = ⟨v.kind, ρ v.n⟩ := if_pos h
theorem XJ (ρ : Int → Int) {v : Val} (h : v.kind ≠ 2) : Ol ρ v = v := if_neg h
section
variable {ρ : Int → Int} {R : List Int} {s t : LX.State}
theorem Om (hi : ∀ x ∈ R, ∀ y ∈ R, ρ x = ρ y → x = y) {l : List Int} (hl : ∀ x ∈ l, x ∈ R) {x : Int} (hx : x ∈ R) : ρ x ∈ l.map ρ ↔ x ∈ l := by
  constructor
  · intro h
    obtain ⟨y, hy, e⟩ := List.mem_map.1 h
    rw [← hi y (hl y hy) x hx e]; exact hy
  · exact fun h => List.mem_map_of_mem h
theorem VQ (hi : ∀ x ∈ R, ∀ y ∈ R, ρ x = ρ y → x = y) {l : List Int} (hl : ∀ x ∈ l, x ∈ R) {v : Val} (hv : v.kind = 2 → v.n ∈ R) : Em (l.map ρ) (Ol ρ v) = (Em l v).map ρ ∧ ∀ x ∈ Em l v, x ∈ R := by
  unfold Em
  by_cases hk : v.kind = 2
  · rw [VP ρ hk]
    simp only [hk, true_and]
    have hm' := Om hi hl (hv hk)
    by_cases hm : v.n ∈ l
    · rw [if_neg (fun h => h (hm'.2 hm)), if_neg (fun h => h hm)]; exact ⟨rfl, hl⟩
    · rw [if_pos (fun h => hm (hm'.1 h)), if_pos hm]
      refine ⟨by simp, fun x hx => ?_⟩
      rcases List.mem_append.1 hx with hx | hx
      · exact hl x hx
      · simp at hx; subst hx; exact hv hk
  · rw [XJ ρ hk, if_neg (fun h => hk h.1), if_neg (fun h => hk h.1)]; exact ⟨rfl, hl⟩
theorem Jo (hi : ∀ x ∈ R, ∀ y ∈ R, ρ x = ρ y → x = y) : ∀ {vs : List Val} {l : List Int}, (∀ x ∈ l, x ∈ R) → jY vs R → En (l.map ρ) (vs.map (Ol ρ)) = (En l vs).map ρ ∧ ∀ x ∈ En l vs, x ∈ R
  | [], l, hl, _ => ⟨rfl, hl⟩
  | v :: vs, l, hl, hv => by
    obtain ⟨h1, h2⟩ := VQ hi hl (hv v (by simp))
    rw [List.map_cons, AJ, AJ, h1]
    exact Jo hi h2 (fun w hw => hv w (List.mem_cons_of_mem _ hw))
theorem YB.Jj (h : YB ρ R s t) : ∀ (m k : Nat) (l : List Int), (∀ x ∈ l, x ∈ R) → Jj t.cells m k (l.map ρ) = (Jj s.cells m k l).map ρ ∧ ∀ x ∈ Jj s.cells m k l, x ∈ R
  | 0, k, l, hl => ⟨rfl, hl⟩
  | m + 1, k, l, hl => by
    unfold YtfclkapelkhlpaaGreatDoor.Jj
    by_cases hk : k < l.length
    · rw [dif_pos hk, dif_pos (by simpa using hk)]
      have hx := hl _ (List.getElem_mem hk)
      have hc := h.cells _ hx
      rw [List.getElem_map, hc.1]
      obtain ⟨h1, h2⟩ := Jo h.inj hl hc.2
      rw [h1]
      exact YB.Jj h m (k + 1) _ h2
    · rw [dif_neg hk, dif_neg (by simpa using hk)]; exact ⟨rfl, hl⟩
theorem KP (ρ : Int → Int) : ∀ fr : List LX.Frame, YtfclkapelkhlpaaGreatDoor.roots (fr.map (VO ρ)) = (YtfclkapelkhlpaaGreatDoor.roots fr).map (Ol ρ)
  | [] => rfl
  | f :: fr => by
    have := KP ρ fr
    unfold YtfclkapelkhlpaaGreatDoor.roots at *
    rw [List.map_cons, List.flatMap_cons, List.flatMap_cons, List.map_append, this]; rfl
theorem YB.reach (h : YB ρ R s t) : qz t = (qz s).map ρ ∧ ∀ x ∈ qz s, x ∈ R := by
  unfold qz zT
  rw [h.frames, KP]
  obtain ⟨h1, h2⟩ := Jo h.inj (l := []) (fun x hx => by cases hx) h.roots
  rw [List.map_nil] at h1
  rw [h1]
  exact h.Jj 25 0 _ h2
end
end Go.Proofs.YtfclkapelkhlpaaGreatDoor
namespace Go.Proofs.YtfclkapelkhlpaaGreatDoor
open Go Go.Proofs Go.LX
section
variable {a : List cz} {ρ : Int → Int} {R : List Int} {s t : LX.State}
theorem Jp {cells : List (List Val)} {k j : Int} {c : List Val} (hk : 0 ≤ k ∧ k < cells.length) (hj : 0 ≤ j ∧ j < cells.length) : cellAt (cells.set k.toNat c) j = if j = k then c else cellAt cells j := by
  obtain ⟨n, rfl⟩ := Int.eq_ofNat_of_zero_le hk.1
  obtain ⟨m, rfl⟩ := Int.eq_ofNat_of_zero_le hj.1
  unfold cellAt
  rw [Int.toNat_natCast, o8, o8, List.getElem?_set]
  by_cases e : n = m
  · subst e; rw [if_pos rfl, if_pos (by omega), if_pos rfl]; rfl
  · rw [if_neg e, if_neg (by omega)]
theorem VR {vs : List Val} {i : Nat} {v : Val} (h : jY vs R) (hv : v.kind = 2 → v.n ∈ R) : jY (vs.set i v) R := fun w hw hk => by
  rcases List.mem_or_eq_of_mem_set hw with hw | rfl
  · exact h w hw hk
  · exact hv hk
theorem YB.put (h : YB ρ R s t) {fr : List LX.Frame} (hr : jY (YtfclkapelkhlpaaGreatDoor.roots fr) R) {k : Int} (hk : k ∈ R) {i : Nat} {v : Val} (hv : v.kind = 2 → v.n ∈ R) (st wh : Int) :
    YB ρ R ⟨fr, s.cells.set k.toNat ((cellAt s.cells k).set i v), st, wh⟩ ⟨fr.map (VO ρ), t.cells.set (ρ k).toNat ((cellAt t.cells (ρ k)).set i (Ol ρ v)), st, wh⟩ := by
  refine ⟨rfl, rfl, rfl, hr, fun x hx => by simpa using h.range x hx, fun x hx => by simpa using h.range' x hx, h.inj, fun x hx => ?_⟩
  simp only
  rw [Jp (h.range' k hk) (h.range' x hx), Jp (h.range k hk) (h.range x hx)]
  have hc := h.cells x hx
  by_cases e : x = k
  · subst e
    rw [if_pos rfl, if_pos rfl, hc.1, List.map_set]
    exact ⟨rfl, VR hc.2 hv⟩
  · rw [if_neg e, if_neg (fun q => e (h.inj x hx k hk q))]
    exact hc
end
end Go.Proofs.YtfclkapelkhlpaaGreatDoor
