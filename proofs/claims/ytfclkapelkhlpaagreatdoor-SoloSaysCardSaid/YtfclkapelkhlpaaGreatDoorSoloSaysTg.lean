/-
  What the law SoloSays needs of our own library and of the walks, no more.
-/
import Derived.Test.YtfclkapelkhlpaaGreatDoorProg
import Derived.Test.YtfclkapelkhlpaaGreatDoorSoloSaysTf
set_option linter.unusedSimpArgs false
set_option linter.unusedVariables false
set_option maxRecDepth 10000
namespace Go.Proofs.YtfclkapelkhlpaaGreatDoor
open Go Go.Proofs Go.LX
noncomputable section
def iE (a : Ins) (b : bL) (AX : Int) (s : Unit) (nx46 : Unit → Option Int) : Option Int :=
  bif (decide ((a.op : Int) = 7) && (!(aJ AX b.regs))) then some 3 else nx46 ()
def bO (s : Unit) : Option Int :=
  some 0
def cz (a : Ins) (i27 : Int) (x28 : Int) (s : Unit) (nx30 : Unit → Option Int) : Option Int :=
  (idx ((lk a.op ([(1, [114, 110, 45]), (2, [114, 114, 45]), (3, [114, 114, 114]), (4, [114, 114, 110]), (5, [114, 110, 45]), (6, [114, 114, 110]), (7, [114, 110, 45]), (8, [114, 45, 45]), (9, [114, 45, 45]), (10, [45, 45, 45]), (11, [114, 45, 45]), (12, [45, 110, 45]), (13, [114, 110, 45])] : List (Int × Str))).getD []) i27).bind fun x38 => bif (decide (((x38.toNat : Int) : Int) = 45) && decide ((x28 : Int) ≠ 0)) then some 4 else nx30 ()
def cK (a : Ins) (uB : Int) (b : bL) (s : Unit) : Option Int :=
  bif decide (((a.args.length : Int) : Int) ≠ uB) then some 4 else each (iE a b) bO a.args ()
def bD (a : Ins) (b : bL) (c : List bL) (x22 : Bool) (uB : Int) : Option Int :=
  bif (!x22) then some 3 else dW (cz a) (cK a uB b) 0 [a.a, a.b, a.c] ()
def cO (a : Ins) (b : bL) (c : List bL) (x85 : Bool) : Option Int :=
  bif x85 then bD a b c (aJ a.b (b.code.length : Int)) 0 else bD a b c ((lk a.op ([(1, [114, 110, 45]), (2, [114, 114, 45]), (3, [114, 114, 114]), (4, [114, 114, 110]), (5, [114, 110, 45]), (6, [114, 114, 110]), (7, [114, 110, 45]), (8, [114, 45, 45]), (9, [114, 45, 45]), (10, [45, 45, 45]), (11, [114, 45, 45]), (12, [45, 110, 45]), (13, [114, 110, 45])] : List (Int × Str))).isSome) 0
def cZ (a : Ins) (b : bL) (c : List bL) (x72 : Bool) : Option Int :=
  bif x72 then bD a b c (aN a.c 0 3) 0 else bif decide ((a.op : Int) = 3) then bif decide (((a.args.length : Int) : Int) = 1) then (idx a.args 0).bind fun QE => bD a b c (aN QE 1 5) 1 else bD a b c false 1 else bif decide ((a.op : Int) = 12) then cO a b c (decide ((a.op : Int) = 12)) else cO a b c (decide ((a.op : Int) = 13))
def df (a : Ins) (b : bL) (i7 : Int) (x8 : Int) (s : Unit) (PZ : Unit → Option Int) : Option Int :=
  (idx ((lk a.op ([(1, [114, 110, 45]), (2, [114, 114, 45]), (3, [114, 114, 114]), (4, [114, 114, 110]), (5, [114, 110, 45]), (6, [114, 114, 110]), (7, [114, 110, 45]), (8, [114, 45, 45]), (9, [114, 45, 45]), (10, [45, 45, 45]), (11, [114, 45, 45]), (12, [45, 110, 45]), (13, [114, 110, 45])] : List (Int × Str))).getD []) i7).bind fun Av => bif (decide (((Av.toNat : Int) : Int) = 114) && (!(aJ x8 b.regs))) then some 3 else PZ ()
def dh (a : Ins) (b : bL) (c : List bL) (s : Unit) : Option Int :=
  bif decide ((a.op : Int) = 7) then bif (!(aJ a.b (c.length : Int))) then some 5 else (idx c a.b).bind fun x59 => bD a b c ((lk a.op ([(1, [114, 110, 45]), (2, [114, 114, 45]), (3, [114, 114, 114]), (4, [114, 114, 110]), (5, [114, 110, 45]), (6, [114, 114, 110]), (7, [114, 110, 45]), (8, [114, 45, 45]), (9, [114, 45, 45]), (10, [45, 45, 45]), (11, [114, 45, 45]), (12, [45, 110, 45]), (13, [114, 110, 45])] : List (Int × Str))).isSome) x59.params else bif decide ((a.op : Int) = 1) then bD a b c (dU a.b) 0 else bif decide ((a.op : Int) = 5) then bD a b c (aN a.b 1 4) 0 else bif decide ((a.op : Int) = 4) then cZ a b c (decide ((a.op : Int) = 4)) else cZ a b c (decide ((a.op : Int) = 6))
def dI (a : Ins) (b : bL) (c : List bL) : Option Int :=
  bif (!(lk a.op ([(1, [114, 110, 45]), (2, [114, 114, 45]), (3, [114, 114, 114]), (4, [114, 114, 110]), (5, [114, 110, 45]), (6, [114, 114, 110]), (7, [114, 110, 45]), (8, [114, 45, 45]), (9, [114, 45, 45]), (10, [45, 45, 45]), (11, [114, 45, 45]), (12, [45, 110, 45]), (13, [114, 110, 45])] : List (Int × Str))).isSome) then some 4 else dW (df a b) (dh a b c) 0 [a.a, a.b, a.c] ()
theorem D9 (w0 : World) (M : BS) (hM : ∀ b, M b → b < w0.heap.size) (a : Ins) (Az : Value) (ha4 : gy eP w0 BE M Az a.args) (b : bL) (SI : Value) (hb2 : gy kr w0 BE M SI b.code) (vc : Value) (c : List bL) (hc : gy jk w0 BE M vc c) (r : Int) (hs : dI a b c = some r) :
    Calls Tryz.prog 52 #[(.agg #[(I6 a.op), (I6 a.a), (I6 a.b), (I6 a.c), Az]), (.agg #[(I6 b.params), (I6 b.regs), SI]), vc] w0 (fun e w' => Grow w0 w' ∧ e = .returned (.int .i64 r)) := by
 refine aQ (args := [(.agg #[(I6 a.op), (I6 a.a), (I6 a.b), (I6 a.c), Az]), (.agg #[(I6 b.params), (I6 b.regs), SI]), vc]) Tryz.func52 rfl Tryz.ntmps52 (bF rfl) ?_
 have h := SH.init hM
 replace h := h.gz 1 ha4 bH
 replace h := h.gz 2 hb2 (dL bH)
 replace h := h.gz 3 hc (dL (dL bH))
 have hl_c := hc.bT
 refine nG (mD (cs := [(I6 a.op), (I6 a.a), (I6 a.b), (I6 a.c), Az]) h 4 rfl rfl fun w b1 h => mD (cs := [(I6 b.params), (I6 b.regs), SI]) h 5 rfl rfl fun w b2 h => aa (ae (v := (I6 0)) rfl) (nJ (Cq h 6 fun w b3 h => iW (ko := [(1, (aV [114, 110, 45]))]) h 6 rfl iB rfl rfl rfl rfl fun w h => iW (ko := [(1, (aV [114, 110, 45])), (2, (aV [114, 114, 45]))]) h 6 rfl iB rfl rfl rfl rfl fun w h => iW (ko := [(1, (aV [114, 110, 45])), (2, (aV [114, 114, 45])), (3, (aV [114, 114, 114]))]) h 6 rfl iB rfl rfl rfl rfl fun w h => iW (ko := [(1, (aV [114, 110, 45])), (2, (aV [114, 114, 45])), (3, (aV [114, 114, 114])), (4, (aV [114, 114, 110]))]) h 6 rfl iB rfl rfl rfl rfl fun w h => iW (ko := [(1, (aV [114, 110, 45])), (2, (aV [114, 114, 45])), (3, (aV [114, 114, 114])), (4, (aV [114, 114, 110])), (5, (aV [114, 110, 45]))]) h 6 rfl iB rfl rfl rfl rfl fun w h => iW (ko := [(1, (aV [114, 110, 45])), (2, (aV [114, 114, 45])), (3, (aV [114, 114, 114])), (4, (aV [114, 114, 110])), (5, (aV [114, 110, 45])), (6, (aV [114, 114, 110]))]) h 6 rfl iB rfl rfl rfl rfl fun w h => iW (ko := [(1, (aV [114, 110, 45])), (2, (aV [114, 114, 45])), (3, (aV [114, 114, 114])), (4, (aV [114, 114, 110])), (5, (aV [114, 110, 45])), (6, (aV [114, 114, 110])), (7, (aV [114, 110, 45]))]) h 6 rfl iB rfl rfl rfl rfl fun w h => iW (ko := [(1, (aV [114, 110, 45])), (2, (aV [114, 114, 45])), (3, (aV [114, 114, 114])), (4, (aV [114, 114, 110])), (5, (aV [114, 110, 45])), (6, (aV [114, 114, 110])), (7, (aV [114, 110, 45])), (8, (aV [114, 45, 45]))]) h 6 rfl iB rfl rfl rfl rfl fun w h => iW (ko := [(1, (aV [114, 110, 45])), (2, (aV [114, 114, 45])), (3, (aV [114, 114, 114])), (4, (aV [114, 114, 110])), (5, (aV [114, 110, 45])), (6, (aV [114, 114, 110])), (7, (aV [114, 110, 45])), (8, (aV [114, 45, 45])), (9, (aV [114, 45, 45]))]) h 6 rfl iB rfl rfl rfl rfl fun w h => iW (ko := [(1, (aV [114, 110, 45])), (2, (aV [114, 114, 45])), (3, (aV [114, 114, 114])), (4, (aV [114, 114, 110])), (5, (aV [114, 110, 45])), (6, (aV [114, 114, 110])), (7, (aV [114, 110, 45])), (8, (aV [114, 45, 45])), (9, (aV [114, 45, 45])), (10, (aV [45, 45, 45]))]) h 6 rfl iB rfl rfl rfl rfl fun w h => iW (ko := [(1, (aV [114, 110, 45])), (2, (aV [114, 114, 45])), (3, (aV [114, 114, 114])), (4, (aV [114, 114, 110])), (5, (aV [114, 110, 45])), (6, (aV [114, 114, 110])), (7, (aV [114, 110, 45])), (8, (aV [114, 45, 45])), (9, (aV [114, 45, 45])), (10, (aV [45, 45, 45])), (11, (aV [114, 45, 45]))]) h 6 rfl iB rfl rfl rfl rfl fun w h => iW (ko := [(1, (aV [114, 110, 45])), (2, (aV [114, 114, 45])), (3, (aV [114, 114, 114])), (4, (aV [114, 114, 110])), (5, (aV [114, 110, 45])), (6, (aV [114, 114, 110])), (7, (aV [114, 110, 45])), (8, (aV [114, 45, 45])), (9, (aV [114, 45, 45])), (10, (aV [45, 45, 45])), (11, (aV [114, 45, 45])), (12, (aV [45, 110, 45]))]) h 6 rfl iB rfl rfl rfl rfl fun w h => iW (ko := [(1, (aV [114, 110, 45])), (2, (aV [114, 114, 45])), (3, (aV [114, 114, 114])), (4, (aV [114, 114, 110])), (5, (aV [114, 110, 45])), (6, (aV [114, 114, 110])), (7, (aV [114, 110, 45])), (8, (aV [114, 45, 45])), (9, (aV [114, 45, 45])), (10, (aV [45, 45, 45])), (11, (aV [114, 45, 45])), (12, (aV [45, 110, 45])), (13, (aV [114, 110, 45]))]) h 6 rfl iB rfl rfl rfl rfl fun w h => aa (ah (v := (.map (some b3))) rfl) ?_)))
 refine aa (ag mG rfl) (aa (aA h 4 rfl aU rfl rfl) (aa (r_lk2 (f := aV) (zz := []) ([(1, [114, 110, 45]), (2, [114, 114, 45]), (3, [114, 114, 114]), (4, [114, 114, 110]), (5, [114, 110, 45]), (6, [114, 114, 110]), (7, [114, 110, 45]), (8, [114, 45, 45]), (9, [114, 45, 45]), (10, [45, 45, 45]), (11, [114, 45, 45]), (12, [45, 110, 45]), (13, [114, 110, 45])] : List (Int × Str)) h 6 rfl iB rfl rfl rfl rfl) (aa (ah (v := (.tuple #[(aV ((lk a.op ([(1, [114, 110, 45]), (2, [114, 114, 45]), (3, [114, 114, 114]), (4, [114, 114, 110]), (5, [114, 110, 45]), (6, [114, 114, 110]), (7, [114, 110, 45]), (8, [114, 45, 45]), (9, [114, 45, 45]), (10, [45, 45, 45]), (11, [114, 45, 45]), (12, [45, 110, 45]), (13, [114, 110, 45])] : List (Int × Str))).getD [])), (.bool ((lk a.op ([(1, [114, 110, 45]), (2, [114, 114, 45]), (3, [114, 114, 114]), (4, [114, 114, 110]), (5, [114, 110, 45]), (6, [114, 114, 110]), (7, [114, 110, 45]), (8, [114, 45, 45]), (9, [114, 45, 45]), (10, [45, 45, 45]), (11, [114, 45, 45]), (12, [45, 110, 45]), (13, [114, 110, 45])] : List (Int × Str))).isSome))])) rfl) (aa (bu rfl rfl) (aa (bu rfl rfl) (aa (ae (v := (aV ((lk a.op ([(1, [114, 110, 45]), (2, [114, 114, 45]), (3, [114, 114, 114]), (4, [114, 114, 110]), (5, [114, 110, 45]), (6, [114, 114, 110]), (7, [114, 110, 45]), (8, [114, 45, 45]), (9, [114, 45, 45]), (10, [45, 45, 45]), (11, [114, 45, 45]), (12, [45, 110, 45]), (13, [114, 110, 45])] : List (Int × Str))).getD []))) rfl) (aa (ae (v := (.bool ((lk a.op ([(1, [114, 110, 45]), (2, [114, 114, 45]), (3, [114, 114, 114]), (4, [114, 114, 110]), (5, [114, 110, 45]), (6, [114, 114, 110]), (7, [114, 110, 45]), (8, [114, 45, 45]), (9, [114, 45, 45]), (10, [45, 45, 45]), (11, [114, 45, 45]), (12, [45, 110, 45]), (13, [114, 110, 45])] : List (Int × Str))).isSome))) rfl) (nK (aa (ah (v := (.bool ((lk a.op ([(1, [114, 110, 45]), (2, [114, 114, 45]), (3, [114, 114, 114]), (4, [114, 114, 110]), (5, [114, 110, 45]), (6, [114, 114, 110]), (7, [114, 110, 45]), (8, [114, 45, 45]), (9, [114, 45, 45]), (10, [45, 45, 45]), (11, [114, 45, 45]), (12, [45, 110, 45]), (13, [114, 110, 45])] : List (Int × Str))).isSome))) rfl) (aa (gL rfl) (nN (aI hs rfl (fun c4 hs => ?_) (fun c4 hs => ?_)))))))))))))
 refine nG (aa (ae (v := (I6 4)) rfl) (nR (ay (dD (v := (I6 4)) Tryz.results52 rfl ?_))))
 obtain rfl := fP hs
 exact ⟨h.grown, rfl⟩
 refine aH (ak (aM (nG (aa (ag jb rfl) (aa (aA h 4 rfl aU rfl rfl) (aa (ag gp rfl) (aa (aA h 4 rfl aU rfl rfl) (aa (ag mH rfl) (aa (aA h 4 rfl aU rfl rfl) (tL (R := eP) (vs := [(I6 a.a), (I6 a.b), (I6 a.c)]) (xs := [a.a, a.b, a.c]) h 7 jC rfl rfl rfl ⟨rfl, ⟨rfl, ⟨rfl, trivial⟩⟩⟩ rfl fun w u5 h => aa (bW bV rfl (h.eG 7 rfl)) (aa (ah (v := (I6 0)) rfl) (nN (aO ?_)))))))))))))
 replace h := h.freeze 7 rfl
 refine gu (σ := Nat × Int) (inl ([6, 9, 10] ++ rg 34 17)) (fun ⟨k6, i7⟩ => [(34, (I6 i7))]) (fun ⟨k6, i7⟩ w => SH w0 M BE w (hset [(1, .sr eP Az a.args), (2, .sr kr SI b.code), (3, .sr jk vc c), (4, .blk b1 [(I6 a.op), (I6 a.a), (I6 a.b), (I6 a.c), Az]), (5, .blk b2 [(I6 b.params), (I6 b.regs), SI]), (7, .rd eP u5 [a.a, a.b, a.c])]) ∧ i7 = (k6 : Int) ∧ dW (df a b) (dh a b c) i7 ([a.a, a.b, a.c].drop k6) () = some r) (fun ⟨k6, i7⟩ => [a.a, a.b, a.c].length - k6) ⟨0, 0⟩ ⟨rfl, trivial⟩ ?_ ?_
 exact ⟨h.cn _, rfl, hs⟩
 rintro ⟨k6, i7⟩ w dO ⟨h, hik, hs⟩
 refine nG ?_
 refine aa (eB rfl rfl) (nN ?_)
 refine aM (gK rfl (fun e11 => ?_) (fun e11 => ?_))
 refine aH (ak ?_)
 obtain ⟨x8, e12a, e12b⟩ := fU (hik ▸ e11)
 rw [e12b, ja] at hs
 generalize Y3 : dW (df a b) (dh a b c) (i7 + 1) ([a.a, a.b, a.c].drop (k6 + 1)) = PZ at hs
 have e12r := gm ((h.ny 7 rfl)).bT hik e11
 refine aM (aO (nG (aa (ah (v := (I6 i7)) rfl) ?_)))
 obtain ⟨b14, o15, cs16, h, r17, i13⟩ := h.Cm 7 8 rfl bV rfl (iI hik) (fZ hik e12a)
 obtain rfl := r17
 refine aa (i13 _ _ _ _ _ _ _ _ _ rfl rfl) (aa (fq (k := 0) h 8 rfl aU rfl rfl) (aa (ae (v := (I6 i7)) rfl) (aa (ae (v := (I6 x8)) rfl) (nJ (aa (ah (v := (aV ((lk a.op ([(1, [114, 110, 45]), (2, [114, 114, 45]), (3, [114, 114, 114]), (4, [114, 114, 110]), (5, [114, 110, 45]), (6, [114, 114, 110]), (7, [114, 110, 45]), (8, [114, 45, 45]), (9, [114, 45, 45]), (10, [45, 45, 45]), (11, [114, 45, 45]), (12, [45, 110, 45]), (13, [114, 110, 45])] : List (Int × Str))).getD []))) rfl) (aa (ah (v := (I6 i7)) rfl) ?_))))))
 obtain ⟨Av, e19, hs⟩ := aK hs
 refine aa (QV Tryz.underlying9 rfl rfl (aB e19).1 (aB e19).2) (aa (bz rfl rfl) (aa (ah (v := (.bool (decide (((Av.toNat : Int) : Int) = 114)))) rfl) (aG rfl rfl (fun q => ah (v := (I6 x8)) rfl) (aG rfl rfl (fun q => ag wy rfl) (aG rfl rfl (fun q => aA h 5 rfl aU (eD q) rfl) (EA rfl rfl Gv rfl (fun q => ky (eD q) (ky (eD q) rfl)) (jX _ _ h.lt x8 b.regs _ rfl) fun w k20 => ?_))))))
 replace h := h.grow k20
 refine aG rfl rfl (fun q => gL (eD q)) (aa (gZ rfl rfl nC) (nN (aI hs rfl (fun c21 hs => ?_) (fun c21 hs => ?_))))
 refine nG (aa (ae (v := (I6 3)) rfl) (nR (aF (ay (ay (aF (ay (dD (v := (I6 3)) Tryz.results52 rfl ?_))))))))
 obtain rfl := fP hs
 exact ⟨h.grown, rfl⟩
 refine aH (ax (ak (aC (aa (dP rfl rfl e12r) (aa (ah (v := (I6 ((i7 + 1)))) rfl) (az (au ?_)))))))
 subst Y3
 exact jB ⟨k6 + 1, i7 + 1⟩ ⟨h.cn _, by omega, hs⟩ (by have := p8 e11; dsimp only; omega)
 rw [fV (hik ▸ e11), mh] at hs
 refine nE (aa (ae (v := (I6 0)) rfl) (nN (bX (σ := Bool × Int) (inl ([6, 8, 11] ++ rg 51 54)) (fun ⟨x22, uB⟩ => [(8, (.bool (x22))), (11, (I6 uB))]) (fun ⟨x22, uB⟩ w => SH w0 M BE w (hset [(1, .sr eP Az a.args), (2, .sr kr SI b.code), (4, .blk b1 [(I6 a.op), (I6 a.a), (I6 a.b), (I6 a.c), Az]), (5, .blk b2 [(I6 b.params), (I6 b.regs), SI])]) ∧ bD a b c x22 uB = some r) ?_ ?_)))
 rintro ⟨x22, uB⟩ w dO ⟨h, hs⟩
 refine aM (nG (aa (ah (v := (.bool (x22))) rfl) (aa (gL rfl) (nN (aI hs rfl (fun c24 hs => ?_) (fun c24 hs => ?_))))))
 refine nG (aa (ae (v := (I6 3)) rfl) (nR (ay (dD (v := (I6 3)) Tryz.results52 rfl ?_))))
 obtain rfl := fP hs
 exact ⟨h.grown, rfl⟩
 refine aH (ak (aM (nG (aa (ag jb rfl) (aa (aA h 4 rfl aU rfl rfl) (aa (ag gp rfl) (aa (aA h 4 rfl aU rfl rfl) (aa (ag mH rfl) (aa (aA h 4 rfl aU rfl rfl) (tL (R := eP) (vs := [(I6 a.a), (I6 a.b), (I6 a.c)]) (xs := [a.a, a.b, a.c]) h 9 jC rfl rfl rfl ⟨rfl, ⟨rfl, ⟨rfl, trivial⟩⟩⟩ rfl fun w u25 h => aa (bW bV rfl (h.eG 9 rfl)) (aa (ah (v := (I6 0)) rfl) (nN (aO ?_)))))))))))))
 replace h := h.freeze 9 rfl
 refine gu (σ := Nat × Int) (inl ([6, 12, 13] ++ rg 115 14)) (fun ⟨k26, i27⟩ => [(115, (I6 i27))]) (fun ⟨k26, i27⟩ w => SH w0 M BE w (hset [(1, .sr eP Az a.args), (2, .sr kr SI b.code), (4, .blk b1 [(I6 a.op), (I6 a.a), (I6 a.b), (I6 a.c), Az]), (5, .blk b2 [(I6 b.params), (I6 b.regs), SI]), (9, .rd eP u25 [a.a, a.b, a.c])]) ∧ i27 = (k26 : Int) ∧ dW (cz a) (cK a uB b) i27 ([a.a, a.b, a.c].drop k26) () = some r) (fun ⟨k26, i27⟩ => [a.a, a.b, a.c].length - k26) ⟨0, 0⟩ ⟨rfl, trivial⟩ ?_ ?_
 exact ⟨h.cn _, rfl, hs⟩
 rintro ⟨k26, i27⟩ w dO ⟨h, hik, hs⟩
 refine nG ?_
 refine aa (eB rfl rfl) (nN ?_)
 refine aM (gK rfl (fun e31 => ?_) (fun e31 => ?_))
 refine aH (ak ?_)
 obtain ⟨x28, e32a, e32b⟩ := fU (hik ▸ e31)
 rw [e32b, ja] at hs
 generalize hnx30 : dW (cz a) (cK a uB b) (i27 + 1) ([a.a, a.b, a.c].drop (k26 + 1)) = nx30 at hs
 have e32r := gm ((h.ny 9 rfl)).bT hik e31
 refine aM (aO (nG (aa (ah (v := (I6 i27)) rfl) ?_)))
 obtain ⟨Gx, o35, cs36, h, r37, i33⟩ := h.Cm 9 10 rfl bV rfl (iI hik) (fZ hik e32a)
 obtain rfl := r37
 refine aa (i33 _ _ _ _ _ _ _ _ _ rfl rfl) (aa (fq (k := 0) h 10 rfl aU rfl rfl) (aa (ae (v := (I6 i27)) rfl) (aa (ae (v := (I6 x28)) rfl) (nJ (aa (ah (v := (aV ((lk a.op ([(1, [114, 110, 45]), (2, [114, 114, 45]), (3, [114, 114, 114]), (4, [114, 114, 110]), (5, [114, 110, 45]), (6, [114, 114, 110]), (7, [114, 110, 45]), (8, [114, 45, 45]), (9, [114, 45, 45]), (10, [45, 45, 45]), (11, [114, 45, 45]), (12, [45, 110, 45]), (13, [114, 110, 45])] : List (Int × Str))).getD []))) rfl) (aa (ah (v := (I6 i27)) rfl) ?_))))))
 obtain ⟨x38, e39, hs⟩ := aK hs
 refine aa (QV Tryz.underlying9 rfl rfl (aB e39).1 (aB e39).2) (aa (bz rfl rfl) (aa (ah (v := (.bool (decide (((x38.toNat : Int) : Int) = 45)))) rfl) (aG rfl rfl (fun q => ah (v := (I6 x28)) rfl) (aG rfl rfl (fun q => iA (eD q) rfl) (aa (gZ rfl rfl nC) (nN (aI hs rfl (fun c40 hs => ?_) (fun c40 hs => ?_))))))))
 refine nG (aa (ae (v := (I6 4)) rfl) (nR (aF (ay (ay (aF (ay (dD (v := (I6 4)) Tryz.results52 rfl ?_))))))))
 obtain rfl := fP hs
 exact ⟨h.grown, rfl⟩
 refine aH (ax (ak (aC (aa (dP rfl rfl e32r) (aa (ah (v := (I6 ((i27 + 1)))) rfl) (az (au ?_)))))))
 subst hnx30
 exact jB ⟨k26 + 1, i27 + 1⟩ ⟨h.cn _, by omega, hs⟩ (by have := p8 e31; dsimp only; omega)
 rw [fV (hik ▸ e31), mh] at hs
 refine iL (bI (bI (eH (ak (aM (nG (aa (ag qZ rfl) (aa (aA h 4 rfl qD rfl rfl) (aa (bW bV rfl (h.iV 1 rfl)) (aa (ah (v := (I6 uB)) rfl) (aa (iA rfl rfl) (nN (aI hs rfl (fun c41 hs => ?_) (fun c41 hs => ?_))))))))))))))
 refine nG (aa (ae (v := (I6 4)) rfl) (nR (ay (dD (v := (I6 4)) Tryz.results52 rfl ?_))))
 obtain rfl := fP hs
 exact ⟨h.grown, rfl⟩
 refine aH (ak (aM (nG (aa (ag qZ rfl) (aa (aA h 4 rfl qD rfl rfl) (aa (bW bV rfl (h.iV 1 rfl)) (aa (ah (v := (I6 0)) rfl) (nN (aO (gu (σ := Nat × Int) (inl ([6, 15] ++ rg 137 15)) (fun ⟨X6, i43⟩ => [(137, (I6 i43))]) (fun ⟨X6, i43⟩ w => SH w0 M BE w (hset [(1, .sr eP Az a.args), (2, .sr kr SI b.code), (4, .blk b1 [(I6 a.op), (I6 a.a), (I6 a.b), (I6 a.c), Az]), (5, .blk b2 [(I6 b.params), (I6 b.regs), SI])]) ∧ i43 = (X6 : Int) ∧ each (iE a b) bO (a.args.drop X6) () = some r) (fun ⟨X6, i43⟩ => a.args.length - X6) ⟨0, 0⟩ ⟨rfl, trivial⟩ ?_ ?_))))))))))
 exact ⟨h.cn _, rfl, hs⟩
 rintro ⟨X6, i43⟩ w dO ⟨h, hik, hs⟩
 refine nG ?_
 refine aa (eB rfl rfl) (nN ?_)
 refine aM (gK rfl (fun e47 => ?_) (fun e47 => ?_))
 refine aH (ak ?_)
 obtain ⟨AX, e48a, e48b⟩ := fU (hik ▸ e47)
 rw [e48b, dV] at hs
 generalize hnx46 : each (iE a b) bO (a.args.drop (X6 + 1)) = nx46 at hs
 have e48r := gm ((h.iV 1 rfl)).bT hik e47
 refine aM (aO (nG ?_))
 obtain ⟨b50, o51, cs52, h, r53, i49⟩ := h.zP 1 11 rfl bV rfl (iI hik) (fZ hik e48a)
 obtain rfl := r53
 refine aa (i49 _ _ _ _ _ _ _ _ _ rfl rfl) (aa (fq (k := 0) h 11 rfl aU rfl rfl) (aa (ae (v := (I6 AX)) rfl) (nJ (aa (ag mG rfl) (aa (aA h 4 rfl aU rfl rfl) (aa (bz rfl rfl) (aa (ah (v := (.bool (decide ((a.op : Int) = 7)))) rfl) (aG rfl rfl (fun q => ah (v := (I6 AX)) rfl) (aG rfl rfl (fun q => ag wy rfl) (aG rfl rfl (fun q => aA h 5 rfl aU (eD q) rfl) (EA rfl rfl Gv rfl (fun q => ky (eD q) (ky (eD q) rfl)) (jX _ _ h.lt AX b.regs _ rfl) fun w k54 => ?_)))))))))))
 replace h := h.grow k54
 refine aG rfl rfl (fun q => gL (eD q)) (aa (gZ rfl rfl nC) (nN (aI hs rfl (fun c55 hs => ?_) (fun c55 hs => ?_))))
 refine nG (aa (ae (v := (I6 3)) rfl) (nR (aF (ay (ay (aF (ay (dD (v := (I6 3)) Tryz.results52 rfl ?_))))))))
 obtain rfl := fP hs
 exact ⟨h.grown, rfl⟩
 refine aH (ax (ak (aC (aa (dP rfl rfl e48r) (aa (ah (v := (I6 ((i43 + 1)))) rfl) (az (au ?_)))))))
 subst hnx46
 exact jB ⟨X6 + 1, i43 + 1⟩ ⟨h.cn _, by omega, hs⟩ (by have := p8 e47; dsimp only; omega)
 rw [fV (hik ▸ e47), fQ] at hs
 refine nE (aa (ae (v := (I6 0)) rfl) (nR (dD (v := (I6 0)) Tryz.results52 rfl ?_)))
 obtain rfl := fP hs
 exact ⟨h.grown, rfl⟩
 refine nG (aa (ag mG rfl) (aa (aA h 4 rfl aU rfl rfl) (nN (aO (nG (aa (bz rfl rfl) (aa (ae (v := (.bool (decide ((a.op : Int) = 7)))) rfl) (nN (aI hs rfl (fun c56 hs => ?_) (fun c56 hs => ?_))))))))))
 refine aM (nG (aa (ag gp rfl) (aa (aA h 4 rfl aU rfl rfl) (aa (ah (v := vc) rfl) (aa (bW gU rfl (h.iV 3 rfl)) (aX Gv rfl rfl (jX _ _ h.lt a.b (c.length : Int) _ rfl) ?_))))))
 rintro _ w ⟨k57, rfl⟩
 refine ⟨_, rfl, ?_⟩
 replace h := h.grow k57
 refine aa (gL rfl) (nN (aI hs rfl (fun c58 hs => ?_) (fun c58 hs => ?_)))
 refine nG (aa (ae (v := (I6 5)) rfl) (nR (ay (aF (ay (dD (v := (I6 5)) Tryz.results52 rfl ?_))))))
 obtain rfl := fP hs
 exact ⟨h.grown, rfl⟩
 refine aH (ak (aC (aa (ah (v := vc) rfl) (aa (ag gp rfl) (aa (aA h 4 rfl aU rfl rfl) ?_)))))
 obtain ⟨x59, e60, hs⟩ := aK hs
 obtain ⟨b62, o63, cs64, h, r65, i61⟩ := h.zP 3 12 rfl gU rfl (aB e60).1 (aB e60).2
 obtain ⟨u66, rfl, g67⟩ := jW r65
 replace h := h.dA 13 g67.up
 refine aa (i61 _ _ _ _ _ _ _ _ _ rfl rfl) (aa (ag Ak rfl) (aa (fq (k := 0) h 12 rfl aU rfl rfl) (aa (ae (v := (I6 x59.params)) rfl) (az (ax (au ?_))))))
 exact bQ ((lk a.op ([(1, [114, 110, 45]), (2, [114, 114, 45]), (3, [114, 114, 114]), (4, [114, 114, 110]), (5, [114, 110, 45]), (6, [114, 114, 110]), (7, [114, 110, 45]), (8, [114, 45, 45]), (9, [114, 45, 45]), (10, [45, 45, 45]), (11, [114, 45, 45]), (12, [45, 110, 45]), (13, [114, 110, 45])] : List (Int × Str))).isSome, x59.params) ⟨h.cn _, hs⟩
 refine nG (aa (bz rfl rfl) (aa (ae (v := (.bool (decide ((a.op : Int) = 1)))) rfl) (nN (aI hs rfl (fun c68 hs => ?_) (fun c68 hs => ?_)))))
 refine aC (aa (ag gp rfl) (aa (aA h 4 rfl aU rfl rfl) (aX Ti rfl rfl (wC _ _ h.lt a.b _ rfl) ?_)))
 rintro _ w ⟨k69, rfl⟩
 refine ⟨_, rfl, ?_⟩
 replace h := h.grow k69
 refine aa (ae (v := (.bool ((dU a.b)))) rfl) (az (ax (au ?_)))
 exact bQ ((dU a.b), 0) ⟨h.cn _, hs⟩
 refine nG (aa (bz rfl rfl) (aa (ae (v := (.bool (decide ((a.op : Int) = 5)))) rfl) (nN (aI hs rfl (fun c70 hs => ?_) (fun c70 hs => ?_)))))
 refine aC (aa (ag gp rfl) (aa (aA h 4 rfl aU rfl rfl) (aX uL rfl rfl (fe _ _ h.lt a.b 1 4 _ rfl) ?_)))
 rintro _ w ⟨k71, rfl⟩
 refine ⟨_, rfl, ?_⟩
 replace h := h.grow k71
 refine aa (ae (v := (.bool ((aN a.b 1 4)))) rfl) (az (ax (au ?_)))
 exact bQ ((aN a.b 1 4), 0) ⟨h.cn _, hs⟩
 refine bX (σ := Bool) (inl [77, 78, 79]) (fun x72 => [(77, (.bool (x72)))]) (fun x72 w => SH w0 M BE w (hset [(1, .sr eP Az a.args), (2, .sr kr SI b.code), (4, .blk b1 [(I6 a.op), (I6 a.a), (I6 a.b), (I6 a.c), Az]), (5, .blk b2 [(I6 b.params), (I6 b.regs), SI])]) ∧ cZ a b c x72 = some r) ?_ ?_
 rintro x72 w dO ⟨h, hs⟩
 refine aI hs rfl (fun c73 hs => ?_) (fun c73 hs => ?_)
 refine aC (aa (ag mH rfl) (aa (aA h 4 rfl aU rfl rfl) (aX uL rfl rfl (fe _ _ h.lt a.c 0 3 _ rfl) ?_)))
 rintro _ w ⟨k74, rfl⟩
 refine ⟨_, rfl, ?_⟩
 replace h := h.grow k74
 refine aa (ae (v := (.bool ((aN a.c 0 3)))) rfl) (az (ax (au ?_)))
 exact bQ ((aN a.c 0 3), 0) ⟨h.cn _, hs⟩
 refine nG (aa (bz rfl rfl) (aa (ae (v := (.bool (decide ((a.op : Int) = 3)))) rfl) (nN (aI hs rfl (fun c75 hs => ?_) (fun c75 hs => ?_)))))
 refine nG (aa (ae (v := (I6 1)) rfl) (nN (aC (aa (ag qZ rfl) (aa (aA h 4 rfl qD rfl rfl) (aa (bW bV rfl (h.iV 1 rfl)) (aa (bz rfl rfl) (aa (ah (v := (.bool (decide (((a.args.length : Int) : Int) = 1)))) rfl) (kT (b := decide (((a.args.length : Int) : Int) = 1)) hs (fun c76 hs => ?_) (fun c76 hs => ?_))))))))))
 refine eT rfl (cB c76) (aa (ag qZ rfl) (eT rfl (cB c76) (aa (aA h 4 rfl qD rfl rfl) (eT rfl (cB c76) ?_))))
 obtain ⟨QE, ZC, hs⟩ := aK hs
 obtain ⟨b80, o81, cs82, h, r83, i79⟩ := h.zP 1 14 rfl bV rfl (aB ZC).1 (aB ZC).2
 obtain rfl := r83
 refine aa (i79 _ _ _ _ _ _ _ _ _ rfl rfl) (eT rfl (cB c76) (aa (fq (k := 0) h 14 rfl aU rfl rfl) (eT rfl (cB c76) (aX uL rfl rfl (fe _ _ h.lt QE 1 5 _ rfl) ?_))))
 rintro _ w ⟨k84, rfl⟩
 refine ⟨_, rfl, ?_⟩
 replace h := h.grow k84
 refine aa (fB (b := true) (v := (.bool ((aN QE 1 5)))) (cB c76) rfl) (aa (ae (v := (.bool ((aN QE 1 5)))) rfl) (az (ax (au ?_))))
 exact bQ ((aN QE 1 5), 1) ⟨h.cn _, hs⟩
 refine vT rfl (cB c76) rfl (vT rfl (cB c76) rfl (vT rfl (cB c76) rfl (vT rfl (cB c76) rfl (vT rfl (cB c76) rfl (aa (fB (b := false) (v := (.bool (false))) (cB c76) rfl) (aa (ae (v := (.bool (false))) rfl) (az (ax (au ?_)))))))))
 exact bQ (false, 1) ⟨h.cn _, hs⟩
 refine bX (σ := Bool) (inl [96, 97, 98]) (fun x85 => [(96, (.bool (x85)))]) (fun x85 w => SH w0 M BE w (hset [(1, .sr eP Az a.args), (2, .sr kr SI b.code), (4, .blk b1 [(I6 a.op), (I6 a.a), (I6 a.b), (I6 a.c), Az]), (5, .blk b2 [(I6 b.params), (I6 b.regs), SI])]) ∧ cO a b c x85 = some r) ?_ ?_
 rintro x85 w dO ⟨h, hs⟩
 refine aI hs rfl (fun c86 hs => ?_) (fun c86 hs => ?_)
 refine aC (aa (ag gp rfl) (aa (aA h 4 rfl aU rfl rfl) (aa (ag nQ rfl) (aa (aA h 5 rfl xy rfl rfl) (aa (bW iy rfl (h.iV 2 rfl)) (aX Gv rfl rfl (jX _ _ h.lt a.b (b.code.length : Int) _ rfl) ?_))))))
 rintro _ w ⟨k87, rfl⟩
 refine ⟨_, rfl, ?_⟩
 replace h := h.grow k87
 refine aa (ae (v := (.bool ((aJ a.b (b.code.length : Int))))) rfl) (az (ax (au ?_)))
 exact bQ ((aJ a.b (b.code.length : Int)), 0) ⟨h.cn _, hs⟩
 refine aH (ax (au ?_))
 exact bQ ((lk a.op ([(1, [114, 110, 45]), (2, [114, 114, 45]), (3, [114, 114, 114]), (4, [114, 114, 110]), (5, [114, 110, 45]), (6, [114, 114, 110]), (7, [114, 110, 45]), (8, [114, 45, 45]), (9, [114, 45, 45]), (10, [45, 45, 45]), (11, [114, 45, 45]), (12, [45, 110, 45]), (13, [114, 110, 45])] : List (Int × Str))).isSome, 0) ⟨h.cn _, hs⟩
 refine nG (aa (bz rfl rfl) (aa (ae (v := (.bool (decide ((a.op : Int) = 12)))) rfl) (nN (aI hs rfl (fun c88 hs => ?_) (fun c88 hs => ?_)))))
 refine aH (au ?_)
 exact bQ (decide ((a.op : Int) = 12)) ⟨h.cn _, hs⟩
 refine aC (aa (bz rfl rfl) (aa (ae (v := (.bool (decide ((a.op : Int) = 13)))) rfl) (az (au ?_))))
 exact bQ (decide ((a.op : Int) = 13)) ⟨h.cn _, hs⟩
 refine nG (aa (bz rfl rfl) (aa (ae (v := (.bool (decide ((a.op : Int) = 4)))) rfl) (nN (aI hs rfl (fun c89 hs => ?_) (fun c89 hs => ?_)))))
 refine aH (au ?_)
 exact bQ (decide ((a.op : Int) = 4)) ⟨h.cn _, hs⟩
 refine aC (aa (bz rfl rfl) (aa (ae (v := (.bool (decide ((a.op : Int) = 6)))) rfl) (az (au ?_))))
 exact bQ (decide ((a.op : Int) = 6)) ⟨h.cn _, hs⟩
def eX (x25 : bL) (a : List bL) (x40 : Ins) (s : Unit) (nx42 : Unit → Option Int) : Option Int :=
  (dI x40 x25 a).bind fun xc => bif decide ((xc : Int) ≠ 0) then some xc else nx42 ()
def qo (x25 : bL) (Xg : Unit → Option Int) (s : Unit) : Option Int :=
  ib (jV ((x25.code.length : Int) - 1)) ((idx x25.code ((x25.code.length : Int) - 1)).bind fun DT => bif (decide ((DT.op : Int) ≠ 8) && decide ((DT.op : Int) ≠ 12)) then some 4 else Xg ())
def eY (a : List bL) (x25 : bL) (s : Unit) (Xg : Unit → Option Int) : Option Int :=
  each (eX x25 a) (qo x25 Xg) x25.code ()
def iq (s : Unit) : Option Int :=
  some 0
def fF (i4 : Int) (x5 : bL) (s : Unit) (nx7 : Unit → Option Int) : Option Int :=
  bif (((!(aN x5.params 0 3)) || (!(aN x5.regs (max 1 x5.params) 40))) || (decide ((i4 : Int) = 0) && decide ((x5.params : Int) ≠ 0))) then some 3 else bif (!(aN (x5.code.length : Int) 1 2000)) then some 2 else nx7 ()
def iZ (a : List bL) (s : Unit) : Option Int :=
  each (eY a) iq a ()
def l9 (a : List bL) : Option Int :=
  bif (!(aN (a.length : Int) 1 4)) then some 2 else dW fF (iZ a) 0 a ()
theorem De (w0 : World) (M : BS) (hM : ∀ b, M b → b < w0.heap.size) (va : Value) (a : List bL) (ha : gy jk w0 BE M va a) (r : Int) (hs : l9 a = some r) :
    Calls Tryz.prog 21 #[va] w0 (fun e w' => Grow w0 w' ∧ e = .returned (.int .i64 r)) := by
 refine aQ (args := [va]) Tryz.func21 rfl Tryz.ntmps21 (bF rfl) ?_
 have h := SH.init hM
 replace h := h.gz 1 ha bH
 have vC := ha.bT
 refine nG (aa (ae (v := (I6 0)) rfl) (nK (aa (ah (v := va) rfl) (aa (bW gU rfl (h.iV 1 rfl)) (aX uL rfl rfl (fe _ _ h.lt (a.length : Int) 1 4 _ rfl) ?_)))))
 rintro _ w ⟨k1, rfl⟩
 refine ⟨_, rfl, ?_⟩
 replace h := h.grow k1
 refine aa (gL rfl) (nN (aI hs rfl (fun c2 hs => ?_) (fun c2 hs => ?_)))
 refine nG (aa (ae (v := (I6 2)) rfl) (nR (ay (dD (v := (I6 2)) Tryz.results21 rfl ?_))))
 obtain rfl := fP hs
 exact ⟨h.grown, rfl⟩
 refine aH (ak (aM (nG (aa (ah (v := va) rfl) (aa (bW gU rfl (h.iV 1 rfl)) (aa (ah (v := (I6 0)) rfl) (nN (aO (gu (σ := Nat × Int) (inl ([2, 3, 4] ++ rg 17 33)) (fun ⟨k3, i4⟩ => [(17, (I6 i4))]) (fun ⟨k3, i4⟩ w => SH w0 M BE w (hset [(1, .sr jk va a)]) ∧ i4 = (k3 : Int) ∧ dW fF (iZ a) i4 (a.drop k3) () = some r) (fun ⟨k3, i4⟩ => a.length - k3) ⟨0, 0⟩ ⟨rfl, trivial⟩ ?_ ?_)))))))))
 exact ⟨h.cn _, rfl, hs⟩
 rintro ⟨k3, i4⟩ w dO ⟨h, hik, hs⟩
 refine nG ?_
 refine aa (eB rfl rfl) (nN ?_)
 refine aM (gK rfl (fun e8 => ?_) (fun e8 => ?_))
 refine aH (ak ?_)
 obtain ⟨x5, e9a, e9b⟩ := fU (hik ▸ e8)
 rw [e9b, ja] at hs
 generalize hnx7 : dW fF (iZ a) (i4 + 1) (a.drop (k3 + 1)) = nx7 at hs
 have e9r := gm ((h.iV 1 rfl)).bT hik e8
 refine aM (aO (nG (aa (ah (v := (I6 i4)) rfl) ?_)))
 obtain ⟨b11, o12, cs13, h, r14, i10⟩ := h.zP 1 2 rfl gU rfl (iI hik) (fZ hik e9a)
 obtain ⟨Jb, rfl, g16⟩ := jW r14
 replace h := h.dA 3 g16.up
 refine aa (i10 _ _ _ _ _ _ _ _ _ rfl rfl) (aa (jo (k := 0) (vs := [(I6 x5.params), (I6 x5.regs), Jb]) h 2 rfl sF rfl rfl rfl (bF rfl)) (bP h 4 sF fun w b17 h => aa (ae (v := (I6 i4)) rfl) (dH (vs := [(I6 x5.params), (I6 x5.regs), Jb]) h 4 [(I6 x5.params), (I6 x5.regs), Jb] rfl sF rfl rfl rfl rfl rfl (ai rfl (ai rfl (ai (h.iD 3 rfl).one aS))) fun w h => nK (aa (ag Ak rfl) (aa (aA h 4 rfl aU rfl rfl) (aX uL rfl rfl (fe _ _ h.lt x5.params 0 3 _ rfl) ?_))))))
 rintro _ w ⟨k18, rfl⟩
 refine ⟨_, rfl, ?_⟩
 replace h := h.grow k18
 refine aa (gL rfl) (aa (ah (v := (.bool ((!(aN x5.params 0 3))))) rfl) (aG rfl rfl (fun q => ag wy rfl) (aG rfl rfl (fun q => aA h 4 rfl aU (eD q) rfl) (aG rfl rfl (fun q => ag Ak rfl) (aG rfl rfl (fun q => aA h 4 rfl aU (eD q) rfl) (aG rfl rfl (fun q => r_max rfl (eD q)) (EA rfl rfl uL rfl (fun q => ky (eD q) (ky (eD q) (ky rfl rfl))) (fe _ _ h.lt x5.regs (max 1 x5.params) 40 _ rfl) fun w k19 => ?_)))))))
 replace h := h.grow k19
 refine aG rfl rfl (fun q => gL (eD q)) (aa (iJ rfl rfl nC) (aa (ah (v := (.bool (((!(aN x5.params 0 3)) || (!(aN x5.regs (max 1 x5.params) 40)))))) rfl) (aG rfl rfl (fun q => ah (v := (I6 i4)) rfl) (aG rfl rfl (fun q => bz (eD q) rfl) (aG rfl rfl (fun q => ah (v := (.bool (decide ((i4 : Int) = 0)))) (eD q)) (kG (((!(aN x5.params 0 3)) || (!(aN x5.regs (max 1 x5.params) 40))) == false) rfl rfl (fun q => ag Ak rfl) (kG (((!(aN x5.params 0 3)) || (!(aN x5.regs (max 1 x5.params) 40))) == false) rfl rfl (fun q => aA h 4 rfl aU (eD q) rfl) (kG (((!(aN x5.params 0 3)) || (!(aN x5.regs (max 1 x5.params) 40))) == false) rfl rfl (fun q => iA (eD q) rfl) (aG rfl rfl (fun q => gZ (eD q) (QN q) nC) (aa (iJ rfl rfl nC) (nN (aI hs rfl (fun c20 hs => ?_) (fun c20 hs => ?_)))))))))))))
 refine nG (aa (ae (v := (I6 3)) rfl) (nR (ay (aF (ay (ay (aF (ay (dD (v := (I6 3)) Tryz.results21 rfl ?_)))))))))
 obtain rfl := fP hs
 exact ⟨h.grown, rfl⟩
 refine nS (aa (ag nQ rfl) (aa (aA h 4 rfl xy rfl rfl) (aa (bW iy rfl (h.ny 3 rfl)) (aX uL rfl rfl (fe _ _ h.lt (x5.code.length : Int) 1 2000 _ rfl) ?_))))
 rintro _ w ⟨k21, rfl⟩
 refine ⟨_, rfl, ?_⟩
 replace h := h.grow k21
 refine aa (gL rfl) (nN (aI hs rfl (fun c22 hs => ?_) (fun c22 hs => ?_)))
 refine nG (aa (ae (v := (I6 2)) rfl) (nR (aF (ay (ay (aF (ay (dD (v := (I6 2)) Tryz.results21 rfl ?_))))))))
 obtain rfl := fP hs
 exact ⟨h.grown, rfl⟩
 refine aH (ax (ak (aC (aa (dP rfl rfl e9r) (aa (ah (v := (I6 ((i4 + 1)))) rfl) (az (au ?_)))))))
 subst hnx7
 exact jB ⟨k3 + 1, i4 + 1⟩ ⟨h.cn _, by omega, hs⟩ (by have := p8 e8; dsimp only; omega)
 rw [fV (hik ▸ e8), mh] at hs
 refine iL (bI (bI (eH (ak (aM (nG (aa (ah (v := va) rfl) (aa (bW gU rfl (h.iV 1 rfl)) (aa (ah (v := (I6 0)) rfl) (nN (aO (gu (σ := Nat × Int) (inl ([2, 6, 8, 9, 10] ++ rg 52 35)) (fun ⟨k23, i24⟩ => [(52, (I6 i24))]) (fun ⟨k23, i24⟩ w => SH w0 M BE w (hset [(1, .sr jk va a)]) ∧ i24 = (k23 : Int) ∧ each (eY a) iq (a.drop k23) () = some r) (fun ⟨k23, i24⟩ => a.length - k23) ⟨0, 0⟩ ⟨rfl, trivial⟩ ?_ ?_))))))))))))
 exact ⟨h.cn _, rfl, hs⟩
 rintro ⟨k23, i24⟩ w dO ⟨h, hik, hs⟩
 refine nG ?_
 refine aa (eB rfl rfl) (nN ?_)
 refine aM (gK rfl (fun e28 => ?_) (fun e28 => ?_))
 refine aH (ak ?_)
 obtain ⟨x25, e29a, e29b⟩ := fU (hik ▸ e28)
 rw [e29b, dV] at hs
 generalize hnx27 : each (eY a) iq (a.drop (k23 + 1)) = Xg at hs
 have e29r := gm ((h.iV 1 rfl)).bT hik e28
 refine aM (aO (nG ?_))
 obtain ⟨b31, o32, cs33, h, r34, i30⟩ := h.zP 1 5 rfl gU rfl (iI hik) (fZ hik e29a)
 obtain ⟨u35, rfl, g36⟩ := jW r34
 replace h := h.dA 6 g36.up
 refine aa (i30 _ _ _ _ _ _ _ _ _ rfl rfl) (aa (jo (k := 0) (vs := [(I6 x25.params), (I6 x25.regs), u35]) h 5 rfl sF rfl rfl rfl (bF rfl)) (bP h 7 sF fun w b37 h => dH (vs := [(I6 x25.params), (I6 x25.regs), u35]) h 7 [(I6 x25.params), (I6 x25.regs), u35] rfl sF rfl rfl rfl rfl rfl (ai rfl (ai rfl (ai (h.iD 6 rfl).one aS))) fun w h => nK (aa (ag nQ rfl) (aa (aA h 7 rfl xy rfl rfl) (aa (bW iy rfl (h.ny 6 rfl)) (aa (ah (v := (I6 0)) rfl) (nN (aO (gu (σ := Nat × Int) (inl ([2, 8, 9] ++ rg 59 12)) (fun ⟨Vl, i39⟩ => [(59, (I6 i39))]) (fun ⟨Vl, i39⟩ w => SH w0 M BE w (hset [(1, .sr jk va a), (6, .rd kr u35 x25.code), (7, .blk b37 [(I6 x25.params), (I6 x25.regs), u35])]) ∧ i39 = (Vl : Int) ∧ each (eX x25 a) (qo x25 Xg) (x25.code.drop Vl) () = some r) (fun ⟨Vl, i39⟩ => x25.code.length - Vl) ⟨0, 0⟩ ⟨rfl, trivial⟩ ?_ ?_)))))))))
 exact ⟨h.cn _, rfl, hs⟩
 rintro ⟨Vl, i39⟩ w dO ⟨h, hik, hs⟩
 refine nG ?_
 refine aa (eB rfl rfl) (nN ?_)
 refine aM (gK rfl (fun e43 => ?_) (fun e43 => ?_))
 refine aH (ak ?_)
 obtain ⟨x40, e44a, e44b⟩ := fU (hik ▸ e43)
 rw [e44b, dV] at hs
 generalize hnx42 : each (eX x25 a) (qo x25 Xg) (x25.code.drop (Vl + 1)) = nx42 at hs
 have e44r := gm ((h.ny 6 rfl)).bT hik e43
 refine aM (aO (nG ?_))
 obtain ⟨b46, o47, cs48, h, r49, i45⟩ := h.Cm 6 8 rfl iy rfl (iI hik) (fZ hik e44a)
 obtain ⟨u50, rfl, g51⟩ := wM r49
 replace h := h.dA 9 g51.up
 refine aa (i45 _ _ _ _ _ _ _ _ _ rfl rfl) (aa (jo (k := 0) (vs := [(I6 x40.op), (I6 x40.a), (I6 x40.b), (I6 x40.c), u50]) h 8 rfl nT rfl rfl rfl (bF rfl)) (bP h 10 nT fun w b52 h => dH (vs := [(I6 x40.op), (I6 x40.a), (I6 x40.b), (I6 x40.c), u50]) h 10 [(I6 x40.op), (I6 x40.a), (I6 x40.b), (I6 x40.c), u50] rfl nT rfl rfl rfl rfl rfl (ai rfl (ai rfl (ai rfl (ai rfl (ai (h.iD 9 rfl).one aS))))) fun w h => nJ (aa (dK (vs := [(I6 x40.op), (I6 x40.a), (I6 x40.b), (I6 x40.c), u50]) h 10 rfl nT rfl rfl rfl) (aa (dK (vs := [(I6 x25.params), (I6 x25.regs), u35]) h 7 rfl sF rfl rfl rfl) (aa (ah (v := va) rfl) ?_)))))
 obtain ⟨xc, e54, hs⟩ := aK hs
 refine aX fnOk52 rfl rfl (D9 _ _ h.lt x40 u50 (h.ny 9 rfl) x25 u35 (h.ny 6 rfl) va a (h.iV 1 rfl) _ e54) ?_
 rintro _ w ⟨k55, rfl⟩
 refine ⟨_, rfl, ?_⟩
 replace h := h.grow k55
 refine aa (ae (v := (I6 xc)) rfl) (nJ (aa (ah (v := (I6 xc)) rfl) (aa (iA rfl rfl) (nN (aI hs rfl (fun c56 hs => ?_) (fun c56 hs => ?_))))))
 refine nG (aa (ah (v := (I6 xc)) rfl) (aa (ae (v := (I6 xc)) rfl) (nR (aF (ay (ay (aF (ay (aF (ay (ay (aF (ay (dD (v := (I6 xc)) Tryz.results21 rfl ?_))))))))))))))
 obtain rfl := fP hs
 exact ⟨h.grown, rfl⟩
 refine aH (ax (ak (aC (aa (dP rfl rfl e44r) (aa (ah (v := (I6 ((i39 + 1)))) rfl) (az (au ?_)))))))
 subst hnx42
 exact jB ⟨Vl + 1, i39 + 1⟩ ⟨h.cn _, by omega, hs⟩ (by have := p8 e43; dsimp only; omega)
 rw [fV (hik ▸ e43), fQ] at hs
 refine nE (aa (ag nQ rfl) (aa (aA h 7 rfl xy rfl rfl) (aa (ag nQ rfl) (aa (aA h 7 rfl xy rfl rfl) (aa (bW iy rfl (h.ny 6 rfl)) ?_)))))
 obtain ⟨a57, hs⟩ := bB hs
 refine aa (mV rfl rfl a57) ?_
 obtain ⟨DT, e59, hs⟩ := aK hs
 obtain ⟨b61, o62, cs63, h, r64, i60⟩ := h.Cm 6 11 rfl iy rfl (aB e59).1 (aB e59).2
 obtain ⟨u65, rfl, g66⟩ := wM r64
 replace h := h.dA 12 g66.up
 refine aa (i60 _ _ _ _ _ _ _ _ _ rfl rfl) (aa (ag mG rfl) (aa (fq (k := 0) h 11 rfl aU rfl rfl) (aa (ae (v := (I6 DT.op)) rfl) (nJ (aa (ah (v := (I6 DT.op)) rfl) (aa (iA rfl rfl) (aa (ah (v := (.bool (decide ((DT.op : Int) ≠ 8)))) rfl) (aG rfl rfl (fun q => ah (v := (I6 DT.op)) rfl) (aG rfl rfl (fun q => iA (eD q) rfl) (aa (gZ rfl rfl nC) (nN (aI hs rfl (fun c67 hs => ?_) (fun c67 hs => ?_)))))))))))))
 refine nG (aa (ae (v := (I6 4)) rfl) (nR (aF (ay (ay (aF (ay (dD (v := (I6 4)) Tryz.results21 rfl ?_))))))))
 obtain rfl := fP hs
 exact ⟨h.grown, rfl⟩
 refine aH (ax (ak (aC (aa (dP rfl rfl e29r) (aa (ah (v := (I6 ((i24 + 1)))) rfl) (az (au ?_)))))))
 subst hnx27
 exact jB ⟨k23 + 1, i24 + 1⟩ ⟨h.cn _, by omega, hs⟩ (by have := p8 e28; dsimp only; omega)
 rw [fV (hik ▸ e28), fQ] at hs
 refine nE (aa (ae (v := (I6 0)) rfl) (nR (dD (v := (I6 0)) Tryz.results21 rfl ?_)))
 obtain rfl := fP hs
 exact ⟨h.grown, rfl⟩
def mI (a : List (List Val)) (b : List (List Val)) (i3 : Int) (s : Unit) (Jo : Unit → Option Bool) : Option Bool :=
  (idx a i3).bind fun x9 => (idx b i3).bind fun Av => (jN x9 Av).bind fun y27 => bif (!y27) then some false else Jo ()
def qU (s : Unit) : Option Bool :=
  some true
def pX (a : List (List Val)) (b : List (List Val)) : Option Bool :=
  bif decide (((a.length : Int) : Int) ≠ (b.length : Int)) then some false else upto (mI a b) qU 0 ((a.length : Int)).toNat ()
theorem Df (w0 : World) (M : BS) (hM : ∀ b, M b → b < w0.heap.size) (va : Value) (a : List (List Val)) (ha : gy (rU bC) w0 BE M va a) (vb : Value) (b : List (List Val)) (hb : gy (rU bC) w0 BE M vb b) (r : Bool) (hs : pX a b = some r) :
    Calls Tryz.prog 58 #[va, vb] w0 (fun e w' => Grow w0 w' ∧ e = .returned (.bool r)) := by
 refine aQ (args := [va, vb]) Tryz.func58 rfl Tryz.ntmps58 (bF rfl) ?_
 have h := SH.init hM
 replace h := h.gz 1 ha bH
 replace h := h.gz 2 hb (dL bH)
 have vC := ha.bT
 have NF := hb.bT
 refine nG (aa (ae (v := (.bool (false))) rfl) (nK (aa (ah (v := va) rfl) (aa (bW eQ rfl (h.iV 1 rfl)) (aa (ah (v := vb) rfl) (aa (bW eQ rfl (h.iV 2 rfl)) (aa (iA rfl rfl) (nN (aI hs rfl (fun c1 hs => ?_) (fun c1 hs => ?_))))))))))
 refine nG (aa (ae (v := (.bool (false))) rfl) (nR (ay (dD (v := (.bool (false))) Tryz.results58 rfl ?_))))
 obtain rfl := fP hs
 exact ⟨h.grown, rfl⟩
 refine aH (ak (aM (nG (aa (ah (v := va) rfl) (aa (bW eQ rfl (h.iV 1 rfl)) (aa (ah (v := (I6 0)) rfl) (nN (aO ?_))))))))
 have aan := (h.iV 1 rfl).bT
 refine gu (σ := Nat × Int) (inl ([4, 5] ++ rg 13 14)) (fun ⟨k2, i3⟩ => [(13, (I6 i3))]) (fun ⟨k2, i3⟩ w => SH w0 M BE w (hset [(1, .sr (rU bC) va a), (2, .sr (rU bC) vb b)]) ∧ i3 = (k2 : Int) ∧ upto (mI a b) qU i3 (((a.length : Int)).toNat - k2) () = some r) (fun ⟨k2, i3⟩ => ((a.length : Int)).toNat - k2) ⟨0, 0⟩ ⟨rfl, trivial⟩ ?_ ?_
 exact ⟨h.cn _, rfl, hs⟩
 rintro ⟨k2, i3⟩ w dO ⟨h, hik, hs⟩
 refine nG ?_
 refine aa (eB rfl rfl) (nN ?_)
 refine aM (gK rfl (fun e7 => ?_) (fun e7 => ?_))
 refine aH (ak ?_)
 rw [si (by have := p8 e7; omega)] at hs
 generalize Me : upto (mI a b) qU (i3 + 1) (((a.length : Int)).toNat - (k2 + 1)) = Jo at hs
 have Y6 : jV (i3 + 1) := (by have := p8 e7; have := aan; exact jV.mk (by omega) (by omega))
 refine aM (aO (nG (aa (ah (v := (I6 i3)) rfl) (aa (ae (v := (I6 i3)) rfl) (nN (aM (lg 8 mixed (by kernel_rfl) h fun w h => aD (ah (v := va) rfl) (aD (ah (v := (I6 i3)) rfl) ?_))))))))
 obtain ⟨x9, e10, hs⟩ := aK hs
 obtain ⟨b12, o13, cs14, h, r15, i11⟩ := h.zP 1 3 rfl eQ rfl (aB e10).1 (aB e10).2
 obtain ⟨u16, rfl, g17⟩ := r15
 replace h := h.dA 4 g17.up
 refine aD (i11 _ _ _ _ _ _ _ _ _ rfl rfl) (aD (fq (k := 0) h 3 rfl j3 rfl rfl) (aD (ah (v := vb) rfl) (aD (ah (v := (I6 i3)) rfl) ?_)))
 obtain ⟨Av, e19, hs⟩ := aK hs
 obtain ⟨NA, o22, cs23, h, r24, i20⟩ := h.zP 2 5 rfl eQ rfl (aB e19).1 (aB e19).2
 obtain ⟨u25, rfl, g26⟩ := r24
 replace h := h.dA 6 g26.up
 refine aD (i20 _ _ _ _ _ _ _ _ _ rfl rfl) (aD (fq (k := 0) h 5 rfl j3 rfl rfl) (uH ?_))
 obtain ⟨y27, e28, hs⟩ := aK hs
 refine aX YP rfl rfl (zI _ _ h.lt u16 x9 (h.ny 4 rfl) u25 Av (h.ny 6 rfl) _ e28) ?_
 rintro _ w ⟨k29, rfl⟩
 refine ⟨_, rfl, ?_⟩
 replace h := h.grow k29
 refine aa (gL rfl) (nN (aI hs rfl (fun c30 hs => ?_) (fun c30 hs => ?_)))
 refine nG (aa (ae (v := (.bool (false))) rfl) (nR (aF (ay (ay (aF (ay (dD (v := (.bool (false))) Tryz.results58 rfl ?_))))))))
 obtain rfl := fP hs
 exact ⟨h.grown, rfl⟩
 refine aH (ax (ak (aC (aa (dP rfl rfl Y6) (aa (ah (v := (I6 ((i3 + 1)))) rfl) (az (au ?_)))))))
 subst Me
 exact jB ⟨k2 + 1, i3 + 1⟩ ⟨h.cn _, by omega, hs⟩ (by have := p8 e7; dsimp only; omega)
 rw [sj (by have := of_decide_eq_false e7; omega)] at hs
 refine nE (aa (ae (v := (.bool (true))) rfl) (nR (dD (v := (.bool (true))) Tryz.results58 rfl ?_)))
 obtain rfl := fP hs
 exact ⟨h.grown, rfl⟩
def qp (ql : Unit → Option Bool) (x34 : Bool) : Option Bool :=
  bif x34 then some false else ql ()
def qw (b : LX.State) (i10 : Int) (gB : LX.Frame) (s : Unit) (ql : Unit → Option Bool) : Option Bool :=
  (idx b.frames i10).bind fun x24 => bif ((decide ((gB.proc : Int) = x24.proc) && decide ((gB.at_ : Int) = x24.at_)) && decide ((gB.lW : Int) = x24.lW)) then (jN gB.regs x24.regs).bind fun y39 => qp ql (!y39) else qp ql true
def qx (s : Unit) : Option Bool :=
  some true
def j5 (a : LX.State) (b : LX.State) : Option Bool :=
  bif (decide ((a.status : Int) = b.status) && decide ((a.aL : Int) = b.aL)) then (pX a.cells b.cells).bind fun y4 => bif y4 then bif decide (((a.frames.length : Int) : Int) ≠ (b.frames.length : Int)) then some false else dW (qw b) qx 0 a.frames () else some false else some false
theorem wY (w0 : World) (M : BS) (hM : ∀ b, M b → b < w0.heap.size) (a : LX.State) (yg xO : Value) (ha0 : gy fC w0 BE M yg a.frames) (ha1 : gy (rU bC) w0 BE M xO a.cells) (b : LX.State) (vb0 vb1 : Value) (hb0 : gy fC w0 BE M vb0 b.frames) (hb1 : gy (rU bC) w0 BE M vb1 b.cells) (r : Bool) (hs : j5 a b = some r) :
    Calls Tryz.prog 24 #[(.agg #[yg, xO, (I6 a.status), (I6 a.aL)]), (.agg #[vb0, vb1, (I6 b.status), (I6 b.aL)])] w0 (fun e w' => Grow w0 w' ∧ e = .returned (.bool r)) := by
 refine aQ (args := [(.agg #[yg, xO, (I6 a.status), (I6 a.aL)]), (.agg #[vb0, vb1, (I6 b.status), (I6 b.aL)])]) Tryz.func24 rfl Tryz.ntmps24 (bF rfl) ?_
 have h := SH.init hM
 replace h := h.gz 1 ha0 bH
 replace h := h.gz 2 ha1 (dL bH)
 replace h := h.gz 3 hb0 (dL (dL bH))
 replace h := h.gz 4 hb1 (dL (dL (dL bH)))
 refine nG (mD (cs := [yg, xO, (I6 a.status), (I6 a.aL)]) h 5 rfl rfl fun w b1 h => mD (cs := [vb0, vb1, (I6 b.status), (I6 b.aL)]) h 6 rfl rfl fun w b2 h => aa (ae (v := (.bool (false))) rfl) (nJ (aa (ag lq rfl) (aa (aA h 5 rfl aU rfl rfl) (aa (ag lq rfl) (aa (aA h 6 rfl aU rfl rfl) (aa (bz rfl rfl) (aa (ah (v := (.bool (decide ((a.status : Int) = b.status)))) rfl) (aG rfl rfl (fun q => ag Aj rfl) (aG rfl rfl (fun q => aA h 5 rfl aU (eD q) rfl) (aG rfl rfl (fun q => ag Aj rfl) (aG rfl rfl (fun q => aA h 6 rfl aU (eD q) rfl) (aG rfl rfl (fun q => bz (eD q) (eD q)) (aa (gZ rfl rfl nC) (aa (ah (v := (.bool ((decide ((a.status : Int) = b.status) && decide ((a.aL : Int) = b.aL))))) rfl) (kT (b := (decide ((a.status : Int) = b.status) && decide ((a.aL : Int) = b.aL))) hs (fun c3 hs => ?_) (fun c3 hs => ?_)))))))))))))))))
 refine eT rfl (cB c3) (aa (ag gF rfl) (eT rfl (cB c3) (aa (aA h 5 rfl jU rfl rfl) (eT rfl (cB c3) (aa (ag gF rfl) (eT rfl (cB c3) (aa (aA h 6 rfl jU rfl rfl) (eT rfl (cB c3) ?_))))))))
 obtain ⟨y4, e5, hs⟩ := aK hs
 refine aX fnOk58 rfl rfl (Df _ _ h.lt xO a.cells (h.iV 2 rfl) vb1 b.cells (h.iV 4 rfl) _ e5) ?_
 rintro _ w ⟨k6, rfl⟩
 refine ⟨_, rfl, ?_⟩
 replace h := h.grow k6
 refine aa (fB (b := true) (v := (.bool (y4))) (cB c3) rfl) (aa (ah (v := (.bool (y4))) rfl) (kT (b := y4) hs (fun c7 hs => ?_) (fun c7 hs => ?_)))
 refine eT rfl (cB c7) (aa (ag dQ rfl) (eT rfl (cB c7) (aa (aA h 5 rfl gD rfl rfl) (eT rfl (cB c7) (aa (ag dQ rfl) (eT rfl (cB c7) (aa (aA h 6 rfl gD rfl rfl) (eT rfl (cB c7) (lh (args := [yg, vb0, (.func (.func 59) #[] #[])]) fnOk45 rfl rfl (aQ (args := [yg, vb0, (.func (.func 59) #[] #[])]) Tryz.func45 rfl Tryz.ntmps45 (bF rfl) (nG (aa (ae (v := (.bool (false))) rfl) (nK (aa (ah (v := yg) rfl) (aa (bW dx rfl (h.iV 1 rfl)) (aa (ah (v := vb0) rfl) (aa (bW dx rfl (h.iV 3 rfl)) (aa (iA rfl rfl) ?_))))))))))))))))))
 refine nN (aI hs rfl (fun c8 hs => ?_) (fun c8 hs => ?_))
 refine nG (aa (ae (v := (.bool (false))) rfl) (nR (ay (dD (v := (.bool (false))) Tryz.results45 rfl (⟨_, rfl, ?_⟩)))))
 refine aa (fB (b := true) (v := (.bool (false))) (cB c7) rfl) (aa (ae (v := (.bool (false))) rfl) (nR (dD (v := (.bool (false))) Tryz.results24 rfl ?_)))
 obtain rfl := fP hs
 exact ⟨h.grown, rfl⟩
 refine aH (ak (aM (nG (aa (ah (v := yg) rfl) (aa (bW dx rfl (h.iV 1 rfl)) (aa (ah (v := (I6 0)) rfl) (nN (aO (gu (σ := Nat × Int) (inl ([6, 7, 8, 9] ++ rg 17 15)) (fun ⟨k9, i10⟩ => [(17, (I6 i10))]) (fun ⟨k9, i10⟩ w => SH w0 M BE w (hset [(1, .sr fC yg a.frames), (3, .sr fC vb0 b.frames)]) ∧ i10 = (k9 : Int) ∧ dW (qw b) qx i10 (a.frames.drop k9) () = some r) (fun ⟨k9, i10⟩ => a.frames.length - k9) ⟨0, 0⟩ ⟨rfl, trivial⟩ ?_ ?_)))))))))
 exact ⟨h.cn _, rfl, hs⟩
 rintro ⟨k9, i10⟩ w dO ⟨h, hik, hs⟩
 refine nG ?_
 refine aa (eB rfl rfl) (nN ?_)
 refine aM (gK rfl (fun e14 => ?_) (fun e14 => ?_))
 refine aH (ak ?_)
 obtain ⟨gB, Tv, Tw⟩ := fU (hik ▸ e14)
 rw [Tw, ja] at hs
 generalize Mj : dW (qw b) qx (i10 + 1) (a.frames.drop (k9 + 1)) = ql at hs
 have Tx := gm ((h.iV 1 rfl)).bT hik e14
 refine aM (aO (nG (aa (ah (v := (I6 i10)) rfl) ?_)))
 obtain ⟨b17, o18, cs19, h, Zr, i16⟩ := h.zP 1 7 rfl dx rfl (iI hik) (fZ hik Tv)
 obtain ⟨u21, rfl, g22⟩ := uJ Zr
 replace h := h.dA 8 g22.up
 refine aa (i16 _ _ _ _ _ _ _ _ _ rfl rfl) (aa (jo (k := 0) (vs := [(I6 gB.proc), (I6 gB.at_), u21, (I6 gB.lW)]) h 7 rfl il rfl rfl rfl (bF rfl)) (bP h 9 il fun w FL h => aa (ae (v := (I6 i10)) rfl) (dH (vs := [(I6 gB.proc), (I6 gB.at_), u21, (I6 gB.lW)]) h 9 [(I6 gB.proc), (I6 gB.at_), u21, (I6 gB.lW)] rfl il rfl rfl rfl rfl rfl (ai rfl (ai rfl (ai (h.iD 8 rfl).one (ai rfl aS)))) fun w h => nJ (aa (ah (v := vb0) rfl) (aa (ah (v := (I6 i10)) rfl) ?_)))))
 obtain ⟨x24, e25, hs⟩ := aK hs
 obtain ⟨b27, o28, cs29, h, r30, i26⟩ := h.zP 3 10 rfl dx rfl (aB e25).1 (aB e25).2
 obtain ⟨u31, rfl, g32⟩ := uJ r30
 replace h := h.dA 11 g32.up
 refine aa (i26 _ _ _ _ _ _ _ _ _ rfl rfl) (aa (jo (k := 0) (vs := [(I6 x24.proc), (I6 x24.at_), u31, (I6 x24.lW)]) h 10 rfl il rfl rfl rfl (bF rfl)) (bP h 12 il fun w b33 h => dH (vs := [(I6 x24.proc), (I6 x24.at_), u31, (I6 x24.lW)]) h 12 [(I6 x24.proc), (I6 x24.at_), u31, (I6 x24.lW)] rfl il rfl rfl rfl rfl rfl (ai rfl (ai rfl (ai (h.iD 11 rfl).one (ai rfl aS)))) fun w h => nN (bX (σ := Bool) (inl [26, 27, 28, 29, 30]) (fun x34 => [(30, (.bool (x34)))]) (fun x34 w => SH w0 M BE w (hset [(1, .sr fC yg a.frames), (3, .sr fC vb0 b.frames)]) ∧ qp ql x34 = some r) ?_ ?_)))
 rintro x34 w dO ⟨h, hs⟩
 refine aI hs rfl (fun c35 hs => ?_) (fun c35 hs => ?_)
 refine nG (aa (ae (v := (.bool (false))) rfl) (nR (aF (ay (ay (aF (ay (dD (v := (.bool (false))) Tryz.results45 rfl (⟨_, rfl, ?_⟩)))))))))
 refine aa (fB (b := true) (v := (.bool (false))) (cB c7) rfl) (aa (ae (v := (.bool (false))) rfl) (nR (dD (v := (.bool (false))) Tryz.results24 rfl ?_)))
 obtain rfl := fP hs
 exact ⟨h.grown, rfl⟩
 refine aH (ax (ak (aC (aa (dP rfl rfl Tx) (aa (ah (v := (I6 ((i10 + 1)))) rfl) (az (au ?_)))))))
 subst Mj
 exact jB ⟨k9 + 1, i10 + 1⟩ ⟨h.cn _, by omega, hs⟩ (by have := p8 e14; dsimp only; omega)
 refine aC (aa (ah (v := (.func (.func 59) #[] #[])) rfl) (aa (dK (vs := [(I6 gB.proc), (I6 gB.at_), u21, (I6 gB.lW)]) h 9 rfl il rfl rfl rfl) (aa (dK (vs := [(I6 x24.proc), (I6 x24.at_), u31, (I6 x24.lW)]) h 12 rfl il rfl rfl rfl) (lh (args := [(.agg #[(I6 gB.proc), (I6 gB.at_), u21, (I6 gB.lW)]), (.agg #[(I6 x24.proc), (I6 x24.at_), u31, (I6 x24.lW)])]) fnOk59 rfl rfl (aQ (args := [(.agg #[(I6 gB.proc), (I6 gB.at_), u21, (I6 gB.lW)]), (.agg #[(I6 x24.proc), (I6 x24.at_), u31, (I6 x24.lW)])]) Tryz.func59 rfl Tryz.ntmps59 (bF rfl) (nG (mD (cs := [(I6 gB.proc), (I6 gB.at_), u21, (I6 gB.lW)]) h 13 rfl rfl fun w b36 h => mD (cs := [(I6 x24.proc), (I6 x24.at_), u31, (I6 x24.lW)]) h 14 rfl rfl fun w b37 h => aa (ae (v := (.bool (false))) rfl) (nJ (aa (ag yU rfl) (aa (aA h 13 rfl aU rfl rfl) (aa (ag yU rfl) (aa (aA h 14 rfl aU rfl rfl) (aa (bz rfl rfl) (aa (ah (v := (.bool (decide ((gB.proc : Int) = x24.proc)))) rfl) (aG rfl rfl (fun q => ag qC rfl) (aG rfl rfl (fun q => aA h 13 rfl aU (eD q) rfl) (aG rfl rfl (fun q => ag qC rfl) ?_)))))))))))))))))
 refine aG rfl rfl (fun q => aA h 14 rfl aU (eD q) rfl) (aG rfl rfl (fun q => bz (eD q) (eD q)) (aa (gZ rfl rfl nC) (aa (ah (v := (.bool ((decide ((gB.proc : Int) = x24.proc) && decide ((gB.at_ : Int) = x24.at_))))) rfl) (aG rfl rfl (fun q => ag DF rfl) (aG rfl rfl (fun q => aA h 13 rfl aU (eD q) rfl) (aG rfl rfl (fun q => ag DF rfl) (aG rfl rfl (fun q => aA h 14 rfl aU (eD q) rfl) (aG rfl rfl (fun q => bz (eD q) (eD q)) (aa (gZ rfl rfl nC) (aa (ah (v := (.bool (((decide ((gB.proc : Int) = x24.proc) && decide ((gB.at_ : Int) = x24.at_)) && decide ((gB.lW : Int) = x24.lW))))) rfl) (kT (b := ((decide ((gB.proc : Int) = x24.proc) && decide ((gB.at_ : Int) = x24.at_)) && decide ((gB.lW : Int) = x24.lW))) hs (fun Q6 hs => ?_) (fun Q6 hs => ?_))))))))))))
 refine eT rfl (cB Q6) (aa (ag jZ rfl) (eT rfl (cB Q6) (aa (aA h 13 rfl j3 rfl rfl) (eT rfl (cB Q6) (aa (ag jZ rfl) (eT rfl (cB Q6) (aa (aA h 14 rfl j3 rfl rfl) (eT rfl (cB Q6) ?_))))))))
 obtain ⟨y39, e40, hs⟩ := aK hs
 refine aX YP rfl rfl (zI _ _ h.lt u21 gB.regs (h.ny 8 rfl) u31 x24.regs (h.ny 11 rfl) _ e40) ?_
 rintro _ w ⟨k41, rfl⟩
 refine ⟨_, rfl, ?_⟩
 replace h := h.grow k41
 refine aa (fB (b := true) (v := (.bool (y39))) (cB Q6) rfl) (aa (ae (v := (.bool (y39))) rfl) (nR (dD (v := (.bool (y39))) Tryz.results59 rfl (⟨_, rfl, ?_⟩))))
 refine aa (gL rfl) (az (au ?_))
 exact bQ (!y39) ⟨h.cn _, hs⟩
 refine vT rfl (cB Q6) rfl (vT rfl (cB Q6) rfl (vT rfl (cB Q6) rfl (vT rfl (cB Q6) rfl (vT rfl (cB Q6) rfl (aa (fB (b := false) (v := (.bool (false))) (cB Q6) rfl) (aa (ae (v := (.bool (false))) rfl) (nR (dD (v := (.bool (false))) Tryz.results59 rfl (⟨_, rfl, ?_⟩)))))))))
 refine aa (gL rfl) (az (au ?_))
 exact bQ true ⟨h.cn _, hs⟩
 rw [fV (hik ▸ e14), mh] at hs
 refine nE (aa (ae (v := (.bool (true))) rfl) (nR (dD (v := (.bool (true))) Tryz.results45 rfl (⟨_, rfl, ?_⟩))))
 refine aa (fB (b := true) (v := (.bool (true))) (cB c7) rfl) (aa (ae (v := (.bool (true))) rfl) (nR (dD (v := (.bool (true))) Tryz.results24 rfl ?_)))
 obtain rfl := fP hs
 exact ⟨h.grown, rfl⟩
 refine vT rfl (cB c7) rfl (vT rfl (cB c7) rfl (vT rfl (cB c7) rfl (vT rfl (cB c7) rfl (vT rfl (cB c7) rfl (aa (fB (b := false) (v := (.bool (false))) (cB c7) rfl) (aa (ae (v := (.bool (false))) rfl) (nR (dD (v := (.bool (false))) Tryz.results24 rfl ?_))))))))
 obtain rfl := fP hs
 exact ⟨h.grown, rfl⟩
 refine vT rfl (cB c3) rfl (vT rfl (cB c3) rfl (vT rfl (cB c3) rfl (vT rfl (cB c3) rfl (vT rfl (cB c3) rfl (aa (fB (b := false) (v := (.bool (false))) (cB c3) rfl) (aa (ah (v := (.bool (false))) rfl) (nM (b' := false) rfl rfl rfl (nM (b' := false) rfl rfl rfl (nM (b' := false) rfl rfl rfl (nM (b' := false) rfl rfl rfl (nM (b' := false) rfl rfl rfl (aa (fB (b := false) (v := (.bool (false))) rfl rfl) (aa (ae (v := (.bool (false))) rfl) (nR (dD (v := (.bool (false))) Tryz.results24 rfl ?_)))))))))))))))
 obtain rfl := fP hs
 exact ⟨h.grown, rfl⟩
def qy (a : Val) (b : Int) (x2 : Bool) : Int :=
  bif x2 then 4 else bif (decide ((a.kind : Int) = 1) && (!(dU a.n))) then 3 else bif (decide ((a.kind : Int) = 2) && (!(aJ a.n b))) then 5 else 0
def fO (a : Val) (b : Int) : Int :=
  bif (!(aN a.kind 0 2)) then qy a b (!(aN a.kind 0 2)) else qy a b (decide ((a.kind : Int) = 0) && decide ((a.n : Int) ≠ 0))
def lG (a : List (List Val)) (x20 : Val) (s : Unit) (nx22 : Unit → Int) : Int :=
  bif decide (((fO x20 (a.length : Int)) : Int) ≠ 0) then (fO x20 (a.length : Int)) else nx22 ()
def lH (Jo : Unit → Int) (s : Unit) : Int :=
  Jo ()
def lI (a : List (List Val)) (x4 : List Val) (s : Unit) (Jo : Unit → Int) : Int :=
  bif (!(aN (x4.length : Int) 1 4)) then 2 else each (lG a) (lH Jo) x4 ()
def lJ (s : Unit) : Int :=
  0
def nV (a : List (List Val)) : Int :=
  bif decide ((24 : Int) < (a.length : Int)) then 2 else each (lI a) lJ a ()
def pI (b : LX.State) (AX : Val) (s : Unit) (nx46 : Unit → Option Int) : Option Int :=
  bif decide (((fO AX (b.cells.length : Int)) : Int) ≠ 0) then some (fO AX (b.cells.length : Int)) else nx46 ()
def pJ (Qg : Int → Option Int) (Ja : LX.Frame) (s : Unit) : Option Int :=
  Qg (Ja.regs.length : Int)
def iQ (a : List bL) (Ja : LX.Frame) (b : LX.State) (Qg : Int → Option Int) (x30 : Bool) : Option Int :=
  bif x30 then some 3 else (idx a Ja.proc).bind fun x32 => bif decide (((Ja.regs.length : Int) : Int) ≠ x32.regs) then some 4 else each (pI b) (pJ Qg Ja) Ja.regs ()
def gQ (a : List bL) (b : LX.State) (Ja : LX.Frame) (yl : Int) (Qg : Int → Option Int) : Option Int :=
  bif (!(aJ Ja.proc (a.length : Int))) then some 5 else (idx a Ja.proc).bind fun aao => bif (!(aJ Ja.at_ (aao.code.length : Int))) then iQ a Ja b Qg true else iQ a Ja b Qg (!(aJ Ja.lW yl))
def jO (yl : Int) : Option Int :=
  some 0
def tu (a : List bL) (b : LX.State) : Option Int :=
  bif ((!(aN b.status 0 3)) || (!(dU b.aL))) then some 3 else bif (((decide ((b.aL : Int) ≠ 0) && decide ((b.status : Int) ≠ 3)) || (decide ((b.status : Int) = 1) && decide ((0 : Int) < (b.frames.length : Int)))) || (decide ((b.status : Int) ≠ 1) && decide (((b.frames.length : Int) : Int) = 0))) then some 4 else bif decide ((10 : Int) < (b.frames.length : Int)) then some 2 else bif decide (((nV b.cells) : Int) ≠ 0) then some (nV b.cells) else each (gQ a b) jO b.frames 1
def jY (a : List Int) (b : Int) (i2 : Int) (s : Unit) (KG : Unit → Option Int) : Option Int :=
  (idx a i2).bind fun x8 => bif decide ((b : Int) = x8) then some i2 else KG ()
def nL (s : Unit) : Option Int :=
  some (-1)
def slices_Index_int (a : List Int) (b : Int) : Option Int :=
  upto (jY a b) nL 0 ((a.length : Int)).toNat ()
theorem wJ (w0 : World) (M : BS) (hM : ∀ b, M b → b < w0.heap.size) (va : Value) (a : List Int) (ha : gy eP w0 BE M va a) (b : Int) (r : Int) (hs : slices_Index_int a b = some r) :
    Calls Tryz.prog 68 #[va, (I6 b)] w0 (fun e w' => Grow w0 w' ∧ e = .returned (.int .i64 r)) := by
 refine aQ (args := [va, (I6 b)]) Tryz.func68 rfl Tryz.ntmps68 (bF rfl) ?_
 have h := SH.init hM
 replace h := h.gz 1 ha bH
 have vC := ha.bT
 refine nG (aa (ae (v := (I6 0)) rfl) (nK (aa (ah (v := va) rfl) (aa (bW bV rfl (h.iV 1 rfl)) (aa (ah (v := (I6 0)) rfl) (nN (aO ?_)))))))
 have hli2 := (h.iV 1 rfl).bT
 refine gu (σ := Nat × Int) (inl ([4, 5] ++ rg 8 11)) (fun ⟨k1, i2⟩ => [(8, (I6 i2))]) (fun ⟨k1, i2⟩ w => SH w0 M BE w (hset [(1, .sr eP va a)]) ∧ i2 = (k1 : Int) ∧ upto (jY a b) nL i2 (((a.length : Int)).toNat - k1) () = some r) (fun ⟨k1, i2⟩ => ((a.length : Int)).toNat - k1) ⟨0, 0⟩ ⟨rfl, trivial⟩ ?_ ?_
 exact ⟨h.cn _, rfl, hs⟩
 rintro ⟨k1, i2⟩ w dO ⟨h, hik, hs⟩
 refine nG ?_
 refine aa (eB rfl rfl) (nN ?_)
 refine aM (gK rfl (fun e6 => ?_) (fun e6 => ?_))
 refine aH (ak ?_)
 rw [si (by have := p8 e6; omega)] at hs
 generalize Y9 : upto (jY a b) nL (i2 + 1) (((a.length : Int)).toNat - (k1 + 1)) = KG at hs
 have e7r : jV (i2 + 1) := (by have := p8 e6; have := hli2; exact jV.mk (by omega) (by omega))
 refine aM (aO (nG (aa (ah (v := (I6 i2)) rfl) (aa (ae (v := (I6 i2)) rfl) (nJ (aa (ah (v := (I6 b)) rfl) (aa (ah (v := va) rfl) (aa (ah (v := (I6 i2)) rfl) ?_))))))))
 obtain ⟨x8, e9, hs⟩ := aK hs
 obtain ⟨b11, o12, cs13, h, r14, i10⟩ := h.zP 1 2 rfl bV rfl (aB e9).1 (aB e9).2
 obtain rfl := r14
 refine aa (i10 _ _ _ _ _ _ _ _ _ rfl rfl) (aa (fq (k := 0) h 2 rfl aU rfl rfl) (aa (bz rfl rfl) (nN (aI hs rfl (fun c15 hs => ?_) (fun c15 hs => ?_)))))
 refine nG (aa (ah (v := (I6 i2)) rfl) (aa (ae (v := (I6 i2)) rfl) (nR (aF (ay (ay (aF (ay (dD (v := (I6 i2)) Tryz.results68 rfl ?_)))))))))
 obtain rfl := fP hs
 exact ⟨h.grown, rfl⟩
 refine aH (ax (ak (aC (aa (dP rfl rfl e7r) (aa (ah (v := (I6 ((i2 + 1)))) rfl) (az (au ?_)))))))
 subst Y9
 exact jB ⟨k1 + 1, i2 + 1⟩ ⟨h.cn _, by omega, hs⟩ (by have := p8 e6; dsimp only; omega)
 rw [sj (by have := of_decide_eq_false e6; omega)] at hs
 refine nE (aa (ae (v := (I6 (-1))) rfl) (nR (dD (v := (I6 (-1))) Tryz.results68 rfl ?_)))
 obtain rfl := fP hs
 exact ⟨h.grown, rfl⟩
def slices_Contains_int (a : List Int) (b : Int) : Option Bool :=
  (slices_Index_int a b).bind fun y1 => some (decide ((0 : Int) ≤ y1))
theorem Ep (w0 : World) (M : BS) (hM : ∀ b, M b → b < w0.heap.size) (va : Value) (a : List Int) (ha : gy eP w0 BE M va a) (b : Int) (r : Bool) (hs : slices_Contains_int a b = some r) :
    Calls Tryz.prog 92 #[va, (I6 b)] w0 (fun e w' => Grow w0 w' ∧ e = .returned (.bool r)) := by
 refine aQ (args := [va, (I6 b)]) Tryz.func92 rfl Tryz.ntmps92 (bF rfl) ?_
 have h := SH.init hM
 replace h := h.gz 1 ha bH
 have vC := ha.bT
 refine nG (aa (ae (v := (.bool (false))) rfl) (nJ (aa (ah (v := va) rfl) (aa (ah (v := (I6 b)) rfl) ?_))))
 obtain ⟨y1, e2, hs⟩ := aK hs
 refine aX Tj rfl rfl (wJ _ _ h.lt va a (h.iV 1 rfl) b _ e2) ?_
 rintro _ w ⟨k3, rfl⟩
 refine ⟨_, rfl, ?_⟩
 replace h := h.grow k3
 refine aa (qV rfl rfl) (aa (ae (v := (.bool (decide ((0 : Int) ≤ y1)))) rfl) (nR (dD (v := (.bool (decide ((0 : Int) ≤ y1)))) Tryz.results92 rfl ?_)))
 obtain rfl := fP hs
 exact ⟨h.grown, rfl⟩
def qL (NQ : List Int → Option (List Int)) (x53 : List Int) : Option (List Int) :=
  NQ x53
def qM (AX : List Int) (yx : Val) (NQ : List Int → Option (List Int)) (x60 : Bool) : Option (List Int) :=
  bif x60 then ib (Room 8 AX [yx.n]) (qL NQ (AX ++ [yx.n])) else qL NQ AX
def kM (yx : Val) (AX : List Int) (NQ : List Int → Option (List Int)) : Option (List Int) :=
  bif decide ((yx.kind : Int) = 2) then (slices_Contains_int AX yx.n).bind fun SF => qM AX yx NQ (!SF) else qM AX yx NQ false
def mQ (DL : Int) (zQ : (List Int × List Val × Int) → Option (List Int)) (iU : List Val) (AX : List Int) : Option (List Int) :=
  ib (jV (DL + 1)) (zQ (AX, iU, (DL + 1)))
def mR (DL : Int) (zQ : (List Int × List Val × Int) → Option (List Int)) (uB : List Int) (iU : List Val) : Option (List Int) :=
  each kM (mQ DL zQ iU) iU uB
def iX (a : List (List Val)) (s : List Int × List Val × Int) (zQ : List Int × List Val × Int → Option (List Int)) : Option (List Int) :=
  match s with | (uB, x25, DL) => bif decide ((DL : Int) < (uB.length : Int)) then bif decide ((0 : Int) ≤ DL) then (idx uB DL).bind fun x71 => (idx a x71).bind fun x79 => mR DL zQ uB x79 else mR DL zQ uB x25 else some uB
def wz (N : Nat) (a : List (List Val)) (b : List Val) : Option (List Int) :=
  again (iX a) N ([], b, -1)
theorem IP (N : Nat) (w0 : World) (M : BS) (hM : ∀ b, M b → b < w0.heap.size) (va : Value) (a : List (List Val)) (ha : gy (rU bC) w0 BE M va a) (vb : Value) (b : List Val) (hb : gy bC w0 BE M vb b) (r : List Int) (hs : wz N a b = some r) :
    Calls Tryz.prog 66 #[va, vb] w0 (fun e w' => Grow w0 w' ∧ ∃ u0, e = .returned (u0) ∧ fI eP 3 w' M u0 r ∧ (∀ b, ob u0 b → w0.heap.size ≤ b)) := by
 refine aQ (args := [va, vb]) Tryz.func66 rfl Tryz.ntmps66 (bF rfl) ?_
 have h := SH.init hM
 replace h := h.gz 1 ha bH
 replace h := h.gz 2 hb (dL bH)
 have vC := ha.bT
 have NF := hb.bT
 refine nG (aa (ae (v := (.slice none 0 0)) rfl) (nJ (aa (ae (v := (.slice none 0 0)) rfl) (nJ (aa (ah (v := vb) rfl) (aa (ae (v := vb) rfl) (nK (aa (ae (v := (I6 (-1))) rfl) (nN (aO ?_))))))))))
 replace h := h.yj (R := eP) (E := 3) 11
 replace h := h.Yl 2 12 rfl
 refine gu (σ := Nat × Value × List Int × Value × List Val × Int) (inl ([5, 6, 7, 9] ++ rg 11 37)) (fun ⟨m30, v22, uB, v24, x25, DL⟩ => [(5, v22), (6, v24), (7, (I6 DL))]) (fun ⟨m30, v22, uB, v24, x25, DL⟩ w => SH w0 M BE w (hset [(1, .sr (rU bC) va a), (11, .own eP 3 v22 uB), (12, .sr bC v24 x25)]) ∧ again (iX a) m30 (uB, x25, DL) = some r) (fun ⟨m30, v22, uB, v24, x25, DL⟩ => m30) ⟨N, (.slice none 0 0), [], vb, b, -1⟩ ⟨rfl, rfl, rfl, trivial⟩ ?_ ?_
 exact ⟨h.cn _, hs⟩
 rintro ⟨m30, v22, uB, v24, x25, DL⟩ w dO ⟨h, hs⟩
 obtain ⟨m301, m30e, m30h⟩ := qA hs
 subst m30e
 replace hs := m30h
 generalize Y7 : again (iX a) m301 = zQ at hs
 refine aM (nG (aa (ah (v := (I6 DL)) rfl) (aa (ah (v := v22) rfl) (aa (bW bV rfl (h.eG 11 rfl)) (aa (eB rfl rfl) (nN (aI hs rfl (fun c34 hs => ?_) (fun c34 hs => ?_))))))))
 refine aH (ak (aM (aO (bX (σ := Value × List Val) (inl ([6] ++ rg 17 9)) (fun ⟨v35, iU⟩ => [(6, v35)]) (fun ⟨v35, iU⟩ w => SH w0 M BE w (hset [(1, .sr (rU bC) va a), (11, .own eP 3 v22 uB), (13, .sr bC v35 iU)]) ∧ mR DL zQ uB iU = some r) ?_ ?_))))
 rintro ⟨v35, iU⟩ w dO ⟨h, hs⟩
 refine nG (aa (ah (v := v35) rfl) (aa (bW aZ rfl (h.iV 13 rfl)) (aa (ah (v := (I6 0)) rfl) (nN (aO (gu (σ := Nat × Int × Value × List Int) (inl ([5, 9] ++ rg 28 20)) (fun ⟨k45, i46, v43, AX⟩ => [(5, v43), (28, (I6 i46))]) (fun ⟨k45, i46, v43, AX⟩ w => SH w0 M BE w (hset [(1, .sr (rU bC) va a), (11, .own eP 3 v43 AX), (13, .sr bC v35 iU)]) ∧ i46 = (k45 : Int) ∧ each kM (mQ DL zQ iU) (iU.drop k45) AX = some r) (fun ⟨k45, i46, v43, AX⟩ => iU.length - k45) ⟨0, 0, v22, uB⟩ ⟨rfl, rfl, trivial⟩ ?_ ?_))))))
 exact ⟨h.cn _, rfl, hs⟩
 rintro ⟨k45, i46, v43, AX⟩ w dO ⟨h, hik, hs⟩
 refine nG ?_
 refine aa (eB rfl rfl) (nN ?_)
 refine aM (gK rfl (fun e50 => ?_) (fun e50 => ?_))
 refine aH (ak ?_)
 obtain ⟨yx, e51a, e51b⟩ := fU (hik ▸ e50)
 rw [e51b, dV] at hs
 generalize hnx49 : each kM (mQ DL zQ iU) (iU.drop (k45 + 1)) = NQ at hs
 have e51r := gm ((h.iV 13 rfl)).bT hik e50
 refine bX (σ := Value × List Int) (inl ([5, 9] ++ rg 30 17)) (fun ⟨v52, x53⟩ => [(5, v52)]) (fun ⟨v52, x53⟩ w => SH w0 M BE w (hset [(1, .sr (rU bC) va a), (11, .own eP 3 v52 x53), (13, .sr bC v35 iU)]) ∧ qL NQ x53 = some r) ?_ ?_
 rintro ⟨v52, x53⟩ w dO ⟨h, hs⟩
 refine aC (aa (dP rfl rfl e51r) (aa (ah (v := (I6 ((i46 + 1)))) rfl) (az (au ?_))))
 subst hnx49
 exact jB ⟨k45 + 1, i46 + 1, v52, x53⟩ ⟨h.cn _, by omega, hs⟩ (by have := p8 e50; dsimp only; omega)
 refine aO (nG ?_)
 obtain ⟨b55, o56, cs57, h, r58, i54⟩ := h.zP 13 14 rfl aZ rfl (iI hik) (fZ hik e51a)
 obtain rfl := r58
 refine aa (i54 _ _ _ _ _ _ _ _ _ rfl rfl) (aa (jo (k := 0) (vs := [(I6 yx.kind), (I6 yx.n)]) h 14 rfl aY rfl rfl rfl (bF rfl)) (bP h 15 aY fun w b59 h => dH (vs := [(I6 yx.kind), (I6 yx.n)]) h 15 [(I6 yx.kind), (I6 yx.n)] rfl aY rfl rfl rfl rfl rfl (ai rfl (ai rfl aS)) fun w h => nN (bX (σ := Bool) (inl (rg 32 10)) (fun x60 => [(41, (.bool (x60)))]) (fun x60 w => SH w0 M BE w (hset [(1, .sr (rU bC) va a), (11, .own eP 3 v43 AX), (13, .sr bC v35 iU), (15, .blk b59 [(I6 yx.kind), (I6 yx.n)])]) ∧ qM AX yx NQ x60 = some r) ?_ ?_)))
 rintro x60 w dO ⟨h, hs⟩
 refine aI hs rfl (fun c61 hs => ?_) (fun c61 hs => ?_)
 refine aC (aa (ah (v := v43) rfl) (aa (ag fu rfl) (aa (aA h 15 rfl aU rfl rfl) (tL (R := eP) (vs := [(I6 yx.n)]) (xs := [yx.n]) h 16 jC rfl rfl rfl ⟨rfl, trivial⟩ rfl fun w u62 h => ?_))))
 obtain ⟨a63, hs⟩ := bB hs
 refine lV (R := eP) (m := [yx.n]) h 11 rfl (h.eG 16 rfl) jC rfl rfl rfl a63.1 a63.2 fun w u64 h => aa (ae (v := u64) rfl) (az (ax (au ?_)))
 exact bQ (u64, (AX ++ [yx.n])) ⟨h.cn _, hs⟩
 refine aH (ax (au ?_))
 exact bQ (v43, AX) ⟨h.cn _, hs⟩
 refine aC (aa (ag mW rfl) (aa (aA h 15 rfl aU rfl rfl) (aa (bz rfl rfl) (aa (ah (v := (.bool (decide ((yx.kind : Int) = 2)))) rfl) (kT (b := decide ((yx.kind : Int) = 2)) hs (fun Al hs => ?_) (fun Al hs => ?_))))))
 refine eT rfl (cB Al) (aa (ah (v := v43) rfl) (eT rfl (cB Al) (aa (ag fu rfl) (eT rfl (cB Al) (aa (aA h 15 rfl aU rfl rfl) (eT rfl (cB Al) ?_))))))
 obtain ⟨SF, e67, hs⟩ := aK hs
 refine aX fnOk92 rfl rfl (Ep _ _ h.lt v43 AX (h.eG 11 rfl) yx.n _ e67) ?_
 rintro _ w ⟨k68, rfl⟩
 refine ⟨_, rfl, ?_⟩
 replace h := h.grow k68
 refine eT rfl (cB Al) (aa (gL rfl) (aa (fB (b := true) (v := (.bool ((!SF)))) (cB Al) rfl) (az (au ?_))))
 exact bQ (!SF) ⟨h.cn _, hs⟩
 refine vT rfl (cB Al) rfl (vT rfl (cB Al) rfl (vT rfl (cB Al) rfl (vT rfl (cB Al) rfl (vT rfl (cB Al) rfl (aa (fB (b := false) (v := (.bool (false))) (cB Al) rfl) (az (au ?_)))))))
 exact bQ false ⟨h.cn _, hs⟩
 rw [fV (hik ▸ e50), fQ] at hs
 refine iL (bI (bI (eH (ax (ak (aC (aa (ah (v := (I6 DL)) rfl) ?_)))))))
 obtain ⟨a69, hs⟩ := bB hs
 refine aa (dP rfl rfl a69) (aa (ae (v := (I6 ((DL + 1)))) rfl) (az (au ?_)))
 replace h := h.Yl 13 12 rfl
 subst Y7
 exact jB ⟨m301, v43, AX, v35, iU, (DL + 1)⟩ ⟨h.cn _, hs⟩
 refine nG (aa (ah (v := (I6 DL)) rfl) (aa (qV rfl rfl) (nN (aI hs rfl (fun c70 hs => ?_) (fun c70 hs => ?_)))))
 refine aC (aa (ah (v := va) rfl) (aa (ah (v := v22) rfl) (aa (ah (v := (I6 DL)) rfl) ?_)))
 obtain ⟨x71, WA, hs⟩ := aK hs
 obtain ⟨b74, q75, i73⟩ := h.qY 11 rfl bV rfl (aB WA).1 (aB WA).2
 refine aa (i73 _ _ _ _ _ _ _ _ _ rfl rfl) ?_
 obtain ⟨cs76, m77, r78⟩ := h.uF 11 rfl q75 (aB WA).2
 obtain rfl := r78
 refine aa (kH (k := 0) m77 aU rfl rfl) ?_
 obtain ⟨x79, e80, hs⟩ := aK hs
 obtain ⟨b82, o83, cs84, h, r85, i81⟩ := h.zP 1 17 rfl eQ rfl (aB e80).1 (aB e80).2
 obtain ⟨u86, rfl, g87⟩ := r85
 replace h := h.dA 18 g87.up
 refine aa (i81 _ _ _ _ _ _ _ _ _ rfl rfl) (aa (fq (k := 0) h 17 rfl j3 rfl rfl) (aa (ae (v := u86) rfl) (az (au ?_))))
 replace h := h.toSr 18 13 rfl
 exact bQ (u86, x79) ⟨h.cn _, hs⟩
 refine aH (au ?_)
 replace h := h.Yl 12 13 rfl
 exact bQ (v24, x25) ⟨h.cn _, hs⟩
 refine nE (aa (ah (v := v22) rfl) (aa (ae (v := v22) rfl) (nR (dD (v := v22) Tryz.results66 rfl ?_))))
 obtain rfl := fP hs
 exact ⟨h.grown, _, rfl, (h.jQ 11 rfl).1, (h.jQ 11 rfl).2⟩
def jq (Xh : List Val) (vP : List (List Val)) (Md : List (List Val) → Option LX.State) : Option LX.State :=
  ib (Room 16 ([] : List Val) Xh) (ib (Room 24 vP [(([] : List Val) ++ Xh)]) (Md (vP ++ [(([] : List Val) ++ Xh)])))
def kN (KL : List LX.Frame) (a : LX.State) (vP : List (List Val)) : Option LX.State :=
  some (⟨KL, vP, a.status, a.aL⟩ : LX.State)
def jr (qW : LX.Frame) (KL : List LX.Frame) (nx19 : List LX.Frame → Option LX.State) : Option LX.State :=
  ib (Room 16 ([] : List Val) qW.regs) (ib (Room 48 KL [(⟨qW.proc, qW.at_, (([] : List Val) ++ qW.regs), qW.lW⟩ : LX.Frame)]) (nx19 (KL ++ [(⟨qW.proc, qW.at_, (([] : List Val) ++ qW.regs), qW.lW⟩ : LX.Frame)])))
def jv (a : LX.State) (KL : List LX.Frame) : Option LX.State :=
  each jq (kN KL a) a.cells []
def kP (a : LX.State) : Option LX.State :=
  each jr (jv a) a.frames []
theorem tC (w0 : World) (M : BS) (hM : ∀ b, M b → b < w0.heap.size) (a : LX.State) (yg xO : Value) (ha0 : gy fC w0 BE M yg a.frames) (ha1 : gy (rU bC) w0 BE M xO a.cells) (r : LX.State) (hs : kP a = some r) :
    Calls Tryz.prog 69 #[(.agg #[yg, xO, (I6 a.status), (I6 a.aL)])] w0 (fun e w' => Grow w0 w' ∧ ∃ uC, ∃ wF, ∃ BG, ∃ GM, e = .returned (.agg #[uC, wF, .int .i64 r.status, .int .i64 r.aL]) ∧ Chunk.holds w' M (Chunk.own' ((cU uC wF r.frames BG r.cells GM) : Chunk)) ((cU uC wF r.frames BG r.cells GM) : Chunk) ∧ (∀ b, Chunk.own' ((cU uC wF r.frames BG r.cells GM) : Chunk) b → w0.heap.size ≤ b)) := by
 refine aQ (args := [(.agg #[yg, xO, (I6 a.status), (I6 a.aL)])]) Tryz.func69 rfl Tryz.ntmps69 (bF rfl) ?_
 have h := SH.init hM
 replace h := h.gz 1 ha0 bH
 replace h := h.gz 2 ha1 (dL bH)
 refine nG (mD (cs := [yg, xO, (I6 a.status), (I6 a.aL)]) h 3 rfl rfl fun w b1 h => bP h 4 bM fun w b2 h => nJ (aa (ae (v := (.slice none 0 0)) rfl) (nK (aa (ag dQ rfl) (aa (aA h 3 rfl gD rfl rfl) (aa (bW dx rfl (h.iV 1 rfl)) (aa (ah (v := (I6 0)) rfl) (nN (aO ?_)))))))))
 replace h := h.yj (R := bg.raw) (E := 49) 11
 replace h := h.PE (R := bC) (Es := 51) 12
 refine gu (σ := Nat × Int × Value × List Value × List LX.Frame) (inl ([3, 5] ++ rg 12 14)) (fun ⟨k15, i16, v12, K8, KL⟩ => [(3, v12), (12, (I6 i16))]) (fun ⟨k15, i16, v12, K8, KL⟩ w => SH w0 M BE w (hset [(1, .sr fC yg a.frames), (2, .sr (rU bC) xO a.cells), (3, .blk b1 [yg, xO, (I6 a.status), (I6 a.aL)]), (4, .blk b2 [(.slice none 0 0), (.slice none 0 0), (I6 0), (I6 0)]), (11, .own bg.raw 49 v12 (List.zip KL K8)), (12, .ik (dS bC 51 hn K8 (List.map bg.sub KL)))]) ∧ i16 = (k15 : Int) ∧ each jr (jv a) (a.frames.drop k15) KL = some r) (fun ⟨k15, i16, v12, K8, KL⟩ => a.frames.length - k15) ⟨0, 0, (.slice none 0 0), ([] : List Value), []⟩ ⟨rfl, rfl, trivial⟩ ?_ ?_
 exact ⟨h.cn _, rfl, hs⟩
 rintro ⟨k15, i16, v12, K8, KL⟩ w dO ⟨h, hik, hs⟩
 refine nG ?_
 refine aa (eB rfl rfl) (nN ?_)
 refine aM (gK rfl (fun e20 => ?_) (fun e20 => ?_))
 refine aH (ak ?_)
 obtain ⟨qW, e21a, e21b⟩ := fU (hik ▸ e20)
 rw [e21b, dV] at hs
 generalize hnx19 : each jr (jv a) (a.frames.drop (k15 + 1)) = nx19 at hs
 have e21r := gm ((h.iV 1 rfl)).bT hik e20
 refine aM (aO (nG ?_))
 obtain ⟨FL, o24, cs25, h, r26, i22⟩ := h.zP 1 13 rfl dx rfl (iI hik) (fZ hik e21a)
 obtain ⟨u27, rfl, g28⟩ := uJ r26
 replace h := h.dA 14 g28.up
 refine aa (i22 _ _ _ _ _ _ _ _ _ rfl rfl) (aa (jo (k := 0) (vs := [(I6 qW.proc), (I6 qW.at_), u27, (I6 qW.lW)]) h 13 rfl il rfl rfl rfl (bF rfl)) (bP h 15 il fun w b29 h => dH (vs := [(I6 qW.proc), (I6 qW.at_), u27, (I6 qW.lW)]) h 15 [(I6 qW.proc), (I6 qW.at_), u27, (I6 qW.lW)] rfl il rfl rfl rfl rfl rfl (ai rfl (ai rfl (ai (h.iD 14 rfl).one (ai rfl aS)))) fun w h => nJ (tL (R := bC) (vs := []) (xs := ([] : List Val)) h 16 kL rfl rfl rfl trivial rfl fun w u30 h => aa (ag jZ rfl) (aa (aA h 15 rfl j3 rfl rfl) ?_))))
 obtain ⟨a31, hs⟩ := bB hs
 refine lV (R := bC) (m := qW.regs) h 16 rfl (h.ny 14 rfl) kL rfl rfl rfl a31.1 a31.2 fun w u32 h => aa (ag jZ rfl) (gq h 15 [(I6 qW.proc), (I6 qW.at_), u32, (I6 qW.lW)] rfl j3 rfl rfl rfl rfl (h.dm 16 rfl).one fun w h => nN (aC (aa (ah (v := v12) rfl) (aa (dK (vs := [(I6 qW.proc), (I6 qW.at_), u32, (I6 qW.lW)]) h 15 rfl il rfl rfl rfl) ?_))))
 have u33o : (Value.oneCell' u32) = true := (h.dm 16 rfl).one
 refine tL (R := bg.raw) (vs := [(.agg #[(I6 qW.proc), (I6 qW.at_), u32, (I6 qW.lW)])]) (xs := List.zip [(⟨qW.proc, qW.at_, (([] : List Val) ++ qW.regs), qW.lW⟩ : LX.Frame)] [u32]) h 17 jT rfl rfl rfl ⟨⟨rfl, u33o⟩, trivial⟩ rfl fun w u33 h => ?_
 replace h := h.pR (N := bg) 16 (⟨qW.proc, qW.at_, (([] : List Val) ++ qW.regs), qW.lW⟩ : LX.Frame) rfl rfl
 obtain ⟨a34, hs⟩ := bB hs
 have z36 := h.fD 12 rfl
 have z36b := h.fD 16 rfl
 refine lV (R := bg.raw) (m := List.zip [(⟨qW.proc, qW.at_, (([] : List Val) ++ qW.regs), qW.lW⟩ : LX.Frame)] [u32]) h 11 rfl (h.eG 17 rfl) jT rfl rfl rfl (by rw [bS z36, bS z36b]; exact a34.1) (by rw [bS z36, bS z36b]; exact a34.2) fun w u35 h => ?_
 replace h := (h.pO 12 16 rfl rfl (by decide)).fA 17
 rw [pQ z36, ← List.map_append] at h
 obtain ⟨us37, us37e⟩ : ∃ z, z = K8 ++ [u32] := ⟨_, rfl⟩
 rw [← us37e] at h
 refine aa (ae (v := u35) rfl) (az (ax (ak (aC (aa (dP rfl rfl e21r) (aa (ah (v := (I6 ((i16 + 1)))) rfl) (az (au ?_))))))))
 subst hnx19
 exact jB ⟨k15 + 1, i16 + 1, u35, us37, (KL ++ [(⟨qW.proc, qW.at_, (([] : List Val) ++ qW.regs), qW.lW⟩ : LX.Frame)])⟩ ⟨h.cn _, by omega, hs⟩ (by have := p8 e20; dsimp only; omega)
 rw [fV (hik ▸ e20), fQ] at hs
 refine nE (aa (ae (v := (.slice none 0 0)) rfl) (nK (aa (ag gF rfl) (aa (aA h 3 rfl jU rfl rfl) (aa (bW eQ rfl (h.iV 2 rfl)) (aa (ah (v := (I6 0)) rfl) (nN (aO ?_))))))))
 replace h := h.yj (R := (dZ Val).raw) (E := 47) 24
 replace h := h.PE (R := bC) (Es := 51) 25
 refine gu (σ := Nat × Int × Value × List Value × List (List Val)) (inl ([6, 8] ++ rg 29 11)) (fun ⟨X5, i51, v47, RN, vP⟩ => [(6, v47), (29, (I6 i51))]) (fun ⟨X5, i51, v47, RN, vP⟩ w => SH w0 M BE w (hset [(1, .sr fC yg a.frames), (2, .sr (rU bC) xO a.cells), (3, .blk b1 [yg, xO, (I6 a.status), (I6 a.aL)]), (4, .blk b2 [(.slice none 0 0), (.slice none 0 0), (I6 0), (I6 0)]), (11, .own bg.raw 49 v12 (List.zip KL K8)), (12, .ik (dS bC 51 hn K8 (List.map bg.sub KL))), (24, .own (dZ Val).raw 47 v47 (List.zip vP RN)), (25, .ik (dS bC 51 hn RN (List.map (dZ Val).sub vP)))]) ∧ i51 = (X5 : Int) ∧ each jq (kN KL a) (a.cells.drop X5) vP = some r) (fun ⟨X5, i51, v47, RN, vP⟩ => a.cells.length - X5) ⟨0, 0, (.slice none 0 0), ([] : List Value), []⟩ ⟨rfl, rfl, trivial⟩ ?_ ?_
 exact ⟨h.cn _, rfl, hs⟩
 rintro ⟨X5, i51, v47, RN, vP⟩ w dO ⟨h, hik, hs⟩
 refine nG ?_
 refine aa (eB rfl rfl) (nN ?_)
 refine aM (gK rfl (fun e55 => ?_) (fun e55 => ?_))
 refine aH (ak ?_)
 obtain ⟨Xh, e56a, e56b⟩ := fU (hik ▸ e55)
 rw [e56b, dV] at hs
 generalize Y8 : each jq (kN KL a) (a.cells.drop (X5 + 1)) = Md at hs
 have e56r := gm ((h.iV 2 rfl)).bT hik e55
 refine aM (aO (nG ?_))
 obtain ⟨b58, o59, cs60, h, r61, i57⟩ := h.zP 2 26 rfl eQ rfl (iI hik) (fZ hik e56a)
 obtain ⟨u62, rfl, g63⟩ := r61
 replace h := h.dA 27 g63.up
 refine aa (i57 _ _ _ _ _ _ _ _ _ rfl rfl) (aa (fq (k := 0) h 26 rfl j3 rfl rfl) (aa (ae (v := u62) rfl) (nN (aC (aa (ah (v := v47) rfl) (tL (R := bC) (vs := []) (xs := ([] : List Val)) h 28 kL rfl rfl rfl trivial rfl fun w u64 h => aa (ah (v := u62) rfl) ?_))))))
 obtain ⟨a65, hs⟩ := bB hs
 refine lV (R := bC) (m := Xh) h 28 rfl (h.ny 27 rfl) kL rfl rfl rfl a65.1 a65.2 fun w u66 h => ?_
 have u67o : (Value.oneCell' u66) = true := (h.dm 28 rfl).one
 refine tL (R := (dZ Val).raw) (vs := [u66]) (xs := List.zip [(([] : List Val) ++ Xh)] [u66]) h 29 kK rfl rfl rfl ⟨⟨fM u67o, u67o⟩, trivial⟩ rfl fun w u67 h => ?_
 replace h := h.pR (N := (dZ Val)) 28 (([] : List Val) ++ Xh) rfl rfl
 obtain ⟨a68, hs⟩ := bB hs
 have z70 := h.fD 25 rfl
 have z70b := h.fD 28 rfl
 refine lV (R := (dZ Val).raw) (m := List.zip [(([] : List Val) ++ Xh)] [u66]) h 24 rfl (h.eG 29 rfl) kK rfl rfl rfl (by rw [bS z70, bS z70b]; exact a68.1) (by rw [bS z70, bS z70b]; exact a68.2) fun w u69 h => ?_
 replace h := (h.pO 25 28 rfl rfl (by decide)).fA 29
 rw [pQ z70, ← List.map_append] at h
 obtain ⟨us71, us71e⟩ : ∃ z, z = RN ++ [u66] := ⟨_, rfl⟩
 rw [← us71e] at h
 refine aa (ae (v := u69) rfl) (az (ax (ak (aC (aa (dP rfl rfl e56r) (aa (ah (v := (I6 ((i51 + 1)))) rfl) (az (au ?_))))))))
 subst Y8
 exact jB ⟨X5 + 1, i51 + 1, u69, us71, (vP ++ [(([] : List Val) ++ Xh)])⟩ ⟨h.cn _, by omega, hs⟩ (by have := p8 e55; dsimp only; omega)
 rw [fV (hik ▸ e55), fQ] at hs
 refine nE (aa (ah (v := v12) rfl) (aa (ah (v := v47) rfl) (aa (ag dQ rfl) (gq h 3 [v12, xO, (I6 a.status), (I6 a.aL)] rfl gD rfl rfl rfl rfl (h.dm 11 rfl).one fun w h => aa (ag gF rfl) (gq h 3 [v12, v47, (I6 a.status), (I6 a.aL)] rfl jU rfl rfl rfl rfl (h.dm 24 rfl).one fun w h => nJ (aa (dK (vs := [v12, v47, (I6 a.status), (I6 a.aL)]) h 3 rfl bM rfl rfl rfl) (dH (vs := [v12, v47, (I6 a.status), (I6 a.aL)]) h 4 [v12, v47, (I6 a.status), (I6 a.aL)] rfl bM rfl rfl rfl rfl rfl (ai (h.dm 11 rfl).one (ai (h.dm 24 rfl).one (ai rfl (ai rfl aS)))) fun w h => nR (Oi (vs := [v12, v47, (I6 a.status), (I6 a.aL)]) Tryz.results69 rfl h 4 rfl bM rfl ?_))))))))
 replace h := h.pair 11 12 (by decide)
 replace h := h.pair 11 24 (by decide)
 replace h := h.pair 11 25 (by decide)
 obtain rfl := fP hs
 obtain ⟨o1, o2, o3⟩ := h.kJ 11 (C := (cU v12 v47 KL K8 vP RN)) rfl ⟨⟨⟨trivial, trivial⟩, trivial⟩, trivial⟩
 exact ⟨o2, v12, v47, K8, RN, rfl, o1, Iq o3⟩
def ng (a : Val) (y3 : Int) : Option Val :=
  some (⟨a.kind, y3⟩ : Val)
def qN (a : Val) (z0 : List Int) : Option Val :=
  bif decide ((a.kind : Int) = 2) then (slices_Index_int z0 a.n).bind fun y5 => ng a y5 else ng a a.n
theorem Ea (w0 : World) (M : BS) (hM : ∀ b, M b → b < w0.heap.size) (a : Val) (vz0 : Value) (z0 : List Int) (hvz0 : gy eP w0 BE M vz0 z0) (q0 : Nat) (hq0 : ∃ E, w0.heap[q0]? = some (.cells #[vz0] E (0, 0))) (r : Val) (hs : qN a z0 = some r) :
    Calls Tryz.prog 67 #[(.agg #[(I6 a.kind), (I6 a.n)]), (.pointer (some ⟨q0, 0, none⟩))] w0 (fun e w' => Grow w0 w' ∧ e = .returned (.agg #[.int .i64 r.kind, .int .i64 r.n])) := by
 refine aQ (args := [(.agg #[(I6 a.kind), (I6 a.n)]), (.pointer (some ⟨q0, 0, none⟩))]) Tryz.func67 rfl Tryz.ntmps67 (bF rfl) ?_
 have h := SH.init hM
 replace h := h.gz 1 hvz0 bH
 replace h := h.LF 2 (cs := [vz0]) hq0 (dL bH)
 refine nG (mD (cs := [(I6 a.kind), (I6 a.n)]) h 3 rfl rfl fun w b1 h => bP h 4 aY fun w b2 h => nN (bX (σ := Int) (inl (rg 4 8)) (fun y3 => []) (fun y3 w => SH w0 M BE w (hset [(3, .blk b1 [(I6 a.kind), (I6 y3)]), (4, .blk b2 [(I6 0), (I6 0)])]) ∧ ng a y3 = some r) ?_ ?_))
 rintro y3 w dO ⟨h, hs⟩
 refine nG (aa (dK (vs := [(I6 a.kind), (I6 y3)]) h 3 rfl aY rfl rfl rfl) (dH (vs := [(I6 a.kind), (I6 y3)]) h 4 [(I6 a.kind), (I6 y3)] rfl aY rfl rfl rfl rfl rfl (ai rfl (ai rfl aS)) fun w h => nR (Oi (vs := [(I6 a.kind), (I6 y3)]) Tryz.results67 rfl h 4 rfl aY rfl ?_)))
 obtain rfl := fP hs
 exact ⟨h.grown, rfl⟩
 refine nG (aa (ag mW rfl) (aa (aA h 3 rfl aU rfl rfl) (aa (bz rfl rfl) (nN (aI hs rfl (fun c4 hs => ?_) (fun c4 hs => ?_))))))
 refine aC (aa (fq (k := 0) h 2 rfl qD rfl rfl) (aa (ag fu rfl) (aa (aA h 3 rfl aU rfl rfl) ?_)))
 obtain ⟨y5, e6, hs⟩ := aK hs
 refine aX Tj rfl rfl (wJ _ _ h.lt vz0 z0 (h.iV 1 rfl) a.n _ e6) ?_
 rintro _ w ⟨k7, rfl⟩
 refine ⟨_, rfl, ?_⟩
 replace h := h.grow k7
 refine aa (ag fu rfl) (gq h 3 [(I6 a.kind), (I6 y5)] rfl aU rfl rfl rfl rfl rfl fun w h => az (au ?_))
 exact bQ y5 ⟨h.cn _, hs⟩
 refine aH (au ?_)
 exact bQ a.n ⟨h.cn _, hs⟩
def ma (y28 : List Int) (i71 : Int) (x69 : List Val) (nx74 : List Val → Option LX.State) : Option LX.State :=
  (idx x69 i71).bind fun QE => (qN QE y28).bind fun Dh => nx74 (x69.set (i71).toNat Dh)
def pY (Xi : List LX.Frame → Option LX.State) (rY : List LX.Frame) (i50 : Int) (QD : LX.Frame) (x69 : List Val) : Option LX.State :=
  Xi (rY.set (i50).toNat ({ QD with regs := x69 }))
def nW (zH : List Val) (rE : Val) (OP : List Val → Option LX.State) (y151 : Int) : Option LX.State :=
  ib (Room 16 zH [(⟨rE.kind, y151⟩ : Val)]) (OP (zH ++ [(⟨rE.kind, y151⟩ : Val)]))
def jc (y28 : List Int) (rE : Val) (zH : List Val) (OP : List Val → Option LX.State) : Option LX.State :=
  bif decide ((rE.kind : Int) = 2) then (slices_Index_int y28 rE.n).bind fun y156 => nW zH rE OP y156 else nW zH rE OP rE.n
def nX (zh : List (List Val)) (OQ : List (List Val) → Option LX.State) (zH : List Val) : Option LX.State :=
  ib (Room 24 zh [zH]) (OQ (zh ++ [zH]))
def jd (y28 : List Int) (a : LX.State) (i105 : Int) (zh : List (List Val)) (OQ : List (List Val) → Option LX.State) : Option LX.State :=
  (idx y28 i105).bind fun K3 => (idx a.cells K3).bind fun Bg => each (jc y28) (nX zh OQ) Bg []
def lK (rY : List LX.Frame) (fH : LX.State) (zh : List (List Val)) : Option LX.State :=
  some (⟨rY, zh, fH.status, fH.aL⟩ : LX.State)
def lL (y28 : List Int) (i50 : Int) (rY : List LX.Frame) (Xi : List LX.Frame → Option LX.State) : Option LX.State :=
  (idx rY i50).bind fun QD => upto (ma y28) (pY Xi rY i50 QD) 0 ((QD.regs.length : Int)).toNat QD.regs
def nY (y28 : List Int) (a : LX.State) (fH : LX.State) (rY : List LX.Frame) : Option LX.State :=
  upto (jd y28 a) (lK rY fH) 0 ((y28.length : Int)).toNat []
def jS (yw : LX.Frame) (Ac : List Val) (ZZ : List Val → Option LX.State) : Option LX.State :=
  ib (Room 16 Ac yw.regs) (ZZ (Ac ++ yw.regs))
def nZ (N : Nat) (a : LX.State) (Ac : List Val) : Option LX.State :=
  (wz N a.cells Ac).bind fun y28 => (kP a).bind fun fH => upto (lL y28) (nY y28 a fH) 0 ((fH.frames.length : Int)).toNat fH.frames
def uw (N : Nat) (a : LX.State) : Option LX.State :=
  each jS (nZ N a) a.frames []
theorem Gc (N : Nat) (w0 : World) (M : BS) (hM : ∀ b, M b → b < w0.heap.size) (a : LX.State) (yg xO : Value) (ha0 : gy fC w0 BE M yg a.frames) (ha1 : gy (rU bC) w0 BE M xO a.cells) (r : LX.State) (hs : uw N a = some r) :
    Calls Tryz.prog 31 #[(.agg #[yg, xO, (I6 a.status), (I6 a.aL)])] w0 (fun e w' => Grow w0 w' ∧ ∃ uC, ∃ wF, ∃ BG, ∃ GM, e = .returned (.agg #[uC, wF, .int .i64 r.status, .int .i64 r.aL]) ∧ Chunk.holds w' M (Chunk.own' ((cU uC wF r.frames BG r.cells GM) : Chunk)) ((cU uC wF r.frames BG r.cells GM) : Chunk) ∧ (∀ b, Chunk.own' ((cU uC wF r.frames BG r.cells GM) : Chunk) b → w0.heap.size ≤ b)) := by
 refine aQ (args := [(.agg #[yg, xO, (I6 a.status), (I6 a.aL)])]) Tryz.func31 rfl Tryz.ntmps31 (bF rfl) ?_
 have h := SH.init hM
 replace h := h.gz 1 ha0 bH
 replace h := h.gz 2 ha1 (dL bH)
 refine nG (mD (cs := [yg, xO, (I6 a.status), (I6 a.aL)]) h 3 rfl rfl fun w b1 h => bP h 4 bM fun w b2 h => nJ (aa (ae (v := (.slice none 0 0)) rfl) (nK (aa (ag dQ rfl) (aa (aA h 3 rfl gD rfl rfl) (aa (bW dx rfl (h.iV 1 rfl)) (aa (ah (v := (I6 0)) rfl) (nN (aO ?_)))))))))
 replace h := h.yj (R := bC) (E := 51) 8
 refine gu (σ := Nat × Int × Value × List Val) (inl ([3, 5] ++ rg 20 9)) (fun ⟨k11, i12, v9, Ac⟩ => [(3, v9), (20, (I6 i12))]) (fun ⟨k11, i12, v9, Ac⟩ w => SH w0 M BE w (hset [(1, .sr fC yg a.frames), (2, .sr (rU bC) xO a.cells), (3, .blk b1 [yg, xO, (I6 a.status), (I6 a.aL)]), (4, .blk b2 [(.slice none 0 0), (.slice none 0 0), (I6 0), (I6 0)]), (8, .own bC 51 v9 Ac)]) ∧ i12 = (k11 : Int) ∧ each jS (nZ N a) (a.frames.drop k11) Ac = some r) (fun ⟨k11, i12, v9, Ac⟩ => a.frames.length - k11) ⟨0, 0, (.slice none 0 0), []⟩ ⟨rfl, rfl, trivial⟩ ?_ ?_
 exact ⟨h.cn _, rfl, hs⟩
 rintro ⟨k11, i12, v9, Ac⟩ w dO ⟨h, hik, hs⟩
 refine nG ?_
 refine aa (eB rfl rfl) (nN ?_)
 refine aM (gK rfl (fun e16 => ?_) (fun e16 => ?_))
 refine aH (ak ?_)
 obtain ⟨yw, e17a, e17b⟩ := fU (hik ▸ e16)
 rw [e17b, dV] at hs
 generalize Z0 : each jS (nZ N a) (a.frames.drop (k11 + 1)) = ZZ at hs
 have e17r := gm ((h.iV 1 rfl)).bT hik e16
 refine aM (aO (nG ?_))
 obtain ⟨b19, o20, cs21, h, r22, i18⟩ := h.zP 1 9 rfl dx rfl (iI hik) (fZ hik e17a)
 obtain ⟨u23, rfl, g24⟩ := uJ r22
 replace h := h.dA 10 g24.up
 refine aa (i18 _ _ _ _ _ _ _ _ _ rfl rfl) (aa (jo (k := 0) (vs := [(I6 yw.proc), (I6 yw.at_), u23, (I6 yw.lW)]) h 9 rfl il rfl rfl rfl (bF rfl)) (bP h 11 il fun w b25 h => dH (vs := [(I6 yw.proc), (I6 yw.at_), u23, (I6 yw.lW)]) h 11 [(I6 yw.proc), (I6 yw.at_), u23, (I6 yw.lW)] rfl il rfl rfl rfl rfl rfl (ai rfl (ai rfl (ai (h.iD 10 rfl).one (ai rfl aS)))) fun w h => nN (aC (aa (ah (v := v9) rfl) (aa (ag jZ rfl) (aa (aA h 11 rfl j3 rfl rfl) ?_))))))
 obtain ⟨a26, hs⟩ := bB hs
 refine lV (R := bC) (m := yw.regs) h 8 rfl (h.ny 10 rfl) kL rfl rfl rfl a26.1 a26.2 fun w u27 h => aa (ae (v := u27) rfl) (az (ax (ak (aC (aa (dP rfl rfl e17r) (aa (ah (v := (I6 ((i12 + 1)))) rfl) (az (au ?_))))))))
 subst Z0
 exact jB ⟨k11 + 1, i12 + 1, u27, (Ac ++ yw.regs)⟩ ⟨h.cn _, by omega, hs⟩ (by have := p8 e16; dsimp only; omega)
 rw [fV (hik ▸ e16), fQ] at hs
 refine nE (aa (ag gF rfl) (aa (aA h 3 rfl jU rfl rfl) (aa (ah (v := v9) rfl) ?_)))
 obtain ⟨y28, e29, hs⟩ := aK hs
 refine aX fnOk66 rfl rfl (IP N _ _ h.lt xO a.cells (h.iV 2 rfl) v9 Ac (h.eG 8 rfl) _ e29) ?_
 rintro _ w ⟨X4, u30, rfl, g31, g32⟩
 refine ⟨_, rfl, ?_⟩
 replace h := h.mK 12 X4 g31 g32
 refine tK h 13 qD fun w Gx h => gq h 13 [u30] rfl qD rfl rfl rfl rfl (h.dm 12 rfl).one fun w h => nJ (aa (r9 (c1 := []) (c2 := [(.pointer (some ⟨Gx, 0, none⟩))]) rfl rfl) (aa (ae (v := (.func (.func 67) #[] #[(.pointer (some ⟨Gx, 0, none⟩))])) rfl) (nJ (aa (dK (vs := [yg, xO, (I6 a.status), (I6 a.aL)]) h 3 rfl bM rfl rfl rfl) ?_))))
 obtain ⟨fH, e36, hs⟩ := aK hs
 refine aX Tk rfl rfl (tC _ _ h.lt a yg xO (h.iV 1 rfl) (h.iV 2 rfl) _ e36) ?_
 rintro _ w ⟨k43, u37, Ry, AZ, JD, rfl, h41, h42⟩
 refine ⟨_, rfl, ?_⟩
 replace h := h.PI 14 (C := (cU u37 Ry fH.frames AZ fH.cells JD)) k43 ⟨⟨⟨trivial, trivial⟩, trivial⟩, trivial⟩ h41 h42
 replace h := h.bY 14 17 (by decide) rfl rfl
 replace h := h.bY 14 16 (by decide) rfl rfl
 replace h := h.bY 14 15 (by decide) rfl rfl
 refine bP h 18 bM fun w Qf h => dH (vs := [u37, Ry, (I6 fH.status), (I6 fH.aL)]) h 18 [u37, Ry, (I6 fH.status), (I6 fH.aL)] rfl bM rfl rfl rfl rfl rfl (ai (h.dm 14 rfl).one (ai (h.dm 16 rfl).one (ai rfl (ai rfl aS)))) fun w h => nK (aa (ag dQ rfl) (aa (aA h 18 rfl gD rfl rfl) (aa (mM (N := bg) dx rfl (h.eG 14 rfl) (h.fD 15 rfl)) (aa (ah (v := (I6 0)) rfl) (nN (aO ?_))))))
 have hli50 := PL (h.eG 14 rfl) (h.fD 15 rfl)
 refine gu (σ := Nat × Int × List LX.Frame) (inl ([9, 10, 11] ++ rg 39 28)) (fun ⟨ZN, i50, rY⟩ => [(39, (I6 i50))]) (fun ⟨ZN, i50, rY⟩ w => SH w0 M BE w (hset [(1, .sr fC yg a.frames), (2, .sr (rU bC) xO a.cells), (3, .blk b1 [yg, xO, (I6 a.status), (I6 a.aL)]), (4, .blk b2 [(.slice none 0 0), (.slice none 0 0), (I6 0), (I6 0)]), (12, .own eP 3 u30 y28), (13, .blk Gx [u30]), (14, .own bg.raw 49 u37 (List.zip rY AZ)), (15, .ik (dS bC 51 hn AZ (List.map bg.sub rY))), (16, .own (dZ Val).raw 47 Ry (List.zip fH.cells JD)), (17, .ik (dS bC 51 hn JD (List.map (dZ Val).sub fH.cells))), (18, .blk Qf [u37, Ry, (I6 fH.status), (I6 fH.aL)])]) ∧ i50 = (ZN : Int) ∧ upto (lL y28) (nY y28 a fH) i50 (((fH.frames.length : Int)).toNat - ZN) rY = some r) (fun ⟨ZN, i50, rY⟩ => ((fH.frames.length : Int)).toNat - ZN) ⟨0, 0, fH.frames⟩ ⟨rfl, trivial⟩ ?_ ?_
 exact ⟨h.cn _, rfl, hs⟩
 rintro ⟨ZN, i50, rY⟩ w dO ⟨h, hik, hs⟩
 refine nG ?_
 refine aa (eB rfl rfl) (nN ?_)
 refine aM (gK rfl (fun e54 => ?_) (fun e54 => ?_))
 refine aH (ak ?_)
 rw [si (by have := p8 e54; omega)] at hs
 generalize hnx53 : upto (lL y28) (nY y28 a fH) (i50 + 1) (((fH.frames.length : Int)).toNat - (ZN + 1)) = Xi at hs
 have e55r : jV (i50 + 1) := (by have := p8 e54; have := hli50; exact jV.mk (by omega) (by omega))
 refine aM (aO (nG (aa (ah (v := (I6 i50)) rfl) (aa (ae (v := (I6 i50)) rfl) (nJ (aa (ag dQ rfl) (aa (aA h 18 rfl gD rfl rfl) (aa (ah (v := (I6 i50)) rfl) ?_))))))))
 obtain ⟨QD, e57, hs⟩ := aK hs
 obtain ⟨Vm, e62, h⟩ := h.l6 15 19 QD.regs rfl rfl (by decide) (aB e57).2 rfl
 obtain ⟨b59, q60, i58⟩ := h.qY 14 rfl dx rfl (aB e57).1 (eu (aB e57).2 e62)
 refine aa (i58 _ _ _ _ _ _ _ _ _ rfl rfl) (aa (ag jZ rfl) ?_)
 obtain ⟨cs63, m64, r65⟩ := h.uF 14 rfl q60 (eu (aB e57).2 e62)
 obtain ⟨rfl, -⟩ := r65
 refine aa (kH (k := 2) m64 j3 rfl rfl) (aa (bW aZ rfl (h.eG 19 rfl)) (aa (ah (v := (I6 0)) rfl) (nN (aO ?_))))
 have hli71 := (h.eG 19 rfl).bT
 refine gu (σ := Nat × Int × List Val) (inl ([10, 11] ++ rg 49 17)) (fun ⟨k70, i71, x69⟩ => [(49, (I6 i71))]) (fun ⟨k70, i71, x69⟩ w => SH w0 M BE w (hset [(1, .sr fC yg a.frames), (2, .sr (rU bC) xO a.cells), (3, .blk b1 [yg, xO, (I6 a.status), (I6 a.aL)]), (4, .blk b2 [(.slice none 0 0), (.slice none 0 0), (I6 0), (I6 0)]), (12, .own eP 3 u30 y28), (13, .blk Gx [u30]), (14, .own bg.raw 49 u37 (List.zip rY AZ)), (15, .ik (dS bC 51 (hat (i50).toNat) AZ (List.map bg.sub rY))), (16, .own (dZ Val).raw 47 Ry (List.zip fH.cells JD)), (17, .ik (dS bC 51 hn JD (List.map (dZ Val).sub fH.cells))), (18, .blk Qf [u37, Ry, (I6 fH.status), (I6 fH.aL)]), (19, .own bC 51 Vm x69)]) ∧ i71 = (k70 : Int) ∧ upto (ma y28) (pY Xi rY i50 QD) i71 (((QD.regs.length : Int)).toNat - k70) x69 = some r) (fun ⟨k70, i71, x69⟩ => ((QD.regs.length : Int)).toNat - k70) ⟨0, 0, QD.regs⟩ ⟨rfl, trivial⟩ ?_ ?_
 exact ⟨h.cn _, rfl, hs⟩
 rintro ⟨k70, i71, x69⟩ w dO ⟨h, hik, hs⟩
 refine nG ?_
 refine aa (eB rfl rfl) (nN ?_)
 refine aM (gK rfl (fun Z9 => ?_) (fun Z9 => ?_))
 refine aH (ak ?_)
 rw [si (by have := p8 Z9; omega)] at hs
 generalize hnx74 : upto (ma y28) (pY Xi rY i50 QD) (i71 + 1) (((QD.regs.length : Int)).toNat - (k70 + 1)) = nx74 at hs
 have e76r : jV (i71 + 1) := (by have := p8 Z9; have := hli71; exact jV.mk (by omega) (by omega))
 refine aM (aO (nG (aa (ah (v := (I6 i71)) rfl) ?_)))
 obtain ⟨QE, ZC, hs⟩ := aK hs
 obtain ⟨b80, q81, i79⟩ := h.qY 19 rfl aZ rfl (aB ZC).1 (aB ZC).2
 refine aa (i79 _ _ _ _ _ _ _ _ _ rfl rfl) ?_
 obtain ⟨cs82, m83, r84⟩ := h.uF 19 rfl q81 (aB ZC).2
 obtain rfl := r84
 refine aa (kg (k := 0) (vs := [(I6 QE.kind), (I6 QE.n)]) m83 aY rfl rfl rfl (bF rfl)) (bP h 20 aY fun w Mf h => aa (ae (v := (I6 i71)) rfl) (dH (vs := [(I6 QE.kind), (I6 QE.n)]) h 20 [(I6 QE.kind), (I6 QE.n)] rfl aY rfl rfl rfl rfl rfl (ai rfl (ai rfl aS)) fun w h => nN (kI (L := (ob Vm)) mixed h fun w h => bE 0 (aP.refl _ _) rfl aj (by kernel_rfl) (by kernel_rfl) (by kernel_rfl) (fun w hk => ag dQ rfl) (bE 1 (aP.refl _ _) rfl aj (by kernel_rfl) (by kernel_rfl) (by kernel_rfl) (fun w hk => have h := h.qB 19 rfl hk; aA h 18 rfl gD rfl rfl) (bE 2 (aP.refl _ _) rfl aj (by kernel_rfl) (by kernel_rfl) (by kernel_rfl) (fun w hk => ah (v := (I6 i50)) rfl) ?_)))))
 obtain ⟨bq89x3_2, RO, aap⟩ := h.qY 14 rfl dx rfl (aB e57).1 (eu (aB e57).2 e62)
 refine bE 3 (aP.refl _ _) rfl aj (by kernel_rfl) (by kernel_rfl) (by kernel_rfl) (fun w hk => aap _ _ _ _ _ _ _ _ _ rfl rfl) (bE 4 (aP.refl _ _) rfl aj (by kernel_rfl) (by kernel_rfl) (by kernel_rfl) (fun w hk => ag jZ rfl) ?_)
 obtain ⟨csq89x5_1, aaq, aar⟩ := h.uF 14 rfl RO (eu (aB e57).2 e62)
 obtain ⟨rfl, -⟩ := aar
 have aas : ¬ (ob Vm _) := (h.apart 14 19 (by decide) _ RO)
 refine bE 5 (aP.refl _ _) rfl aj (by kernel_rfl) (by kernel_rfl) (by kernel_rfl) (fun w hk => have h := h.qB 19 rfl hk; kH (k := 2) (aaq.hold hk aas) j3 rfl rfl) (bE 6 (aP.refl _ _) rfl aj (by kernel_rfl) (by kernel_rfl) (by kernel_rfl) (fun w hk => ah (v := (I6 i71)) rfl) (bE 7 (aP.refl _ _) rfl aj (by kernel_rfl) (by kernel_rfl) (by kernel_rfl) (fun w hk => ah (v := (.func (.func 67) #[] #[(.pointer (some ⟨Gx, 0, none⟩))])) rfl) (bE 8 (aP.refl _ _) rfl aj (by kernel_rfl) (by kernel_rfl) (by kernel_rfl) (fun w hk => have h := h.qB 19 rfl hk; dK (vs := [(I6 QE.kind), (I6 QE.n)]) h 20 rfl aY rfl rfl rfl) ?_)))
 obtain ⟨ws90, ws90e⟩ : ∃ x, x = w := ⟨_, rfl⟩
 have Um : aP (ob Vm) ws90 w := ws90e ▸ aP.refl (ob Vm) w
 refine rf ws90e.symm (bA 9 (by kernel_rfl) rfl aj ?_)
 obtain ⟨Dh, aat, hs⟩ := aK hs
 refine aX YS rfl rfl (Ea _ _ h.lt QE u30 y28 (h.eG 12 rfl) Gx (h.uD 13 rfl) _ aat) ?_
 rintro _ w ⟨RP, rfl⟩
 refine ⟨_, rfl, ?_⟩
 replace h := h.grow RP
 replace Um := Um.grow RP
 refine az (aR Um ?_)
 obtain ⟨bq89x10_2, Xj, Xk⟩ := h.qY 19 rfl aZ rfl (aB ZC).1 (aB ZC).2
 refine dG 10 Um rfl (by kernel_rfl) (fun w hk => Xk _ _ _ _ _ _ _ _ _ rfl rfl) (bA 11 (by kernel_rfl) rfl aj (ry (a' := Dh) (vs := [(I6 Dh.kind), (I6 Dh.n)]) h 19 rfl Xj rfl (aB ZC).2 aY rfl rfl rfl rfl rfl fun w h Xl => ?_))
 replace Um := Um.same Xl
 refine az (aR Um (fK (by kernel_rfl) (ax (ak (aC (aa (dP rfl rfl e76r) (aa (ah (v := (I6 ((i71 + 1)))) rfl) (az (au ?_)))))))))
 subst hnx74
 exact jB ⟨k70 + 1, i71 + 1, (x69.set (i71).toNat Dh)⟩ ⟨h.cn _, by omega, hs⟩ (by have := p8 Z9; dsimp only; omega)
 rw [sj (by have := of_decide_eq_false Z9; omega)] at hs
 refine iL (bI (bI (eH (ax (ak (aC (aa (dP rfl rfl e55r) (aa (ah (v := (I6 ((i50 + 1)))) rfl) (az ?_)))))))))
 replace h := h.l5 14 15 19 ({ QD with regs := x69 }) rfl rfl rfl (by decide) (by decide) (by decide) (aB e57).2 e62 rfl
 refine au ?_
 subst hnx53
 exact jB ⟨ZN + 1, i50 + 1, (rY.set (i50).toNat ({ QD with regs := x69 }))⟩ ⟨h.cn _, by omega, hs⟩ (by have := p8 e54; dsimp only; omega)
 rw [sj (by have := of_decide_eq_false e54; omega)] at hs
 refine nE (aa (ag gF rfl) (gq h 18 [u37, (.slice none 0 0), (I6 fH.status), (I6 fH.aL)] rfl jU rfl rfl rfl rfl rfl fun w h => nK (aa (aA h 13 rfl qD rfl rfl) (aa (bW bV rfl (h.eG 12 rfl)) (aa (ah (v := (I6 0)) rfl) (nN (aO ?_)))))))
 have hli105 := (h.eG 12 rfl).bT
 replace h := h.yj (R := (dZ Val).raw) (E := 47) 183
 replace h := h.PE (R := bC) (Es := 51) 184
 refine gu (σ := Nat × Int × Value × List Value × List (List Val)) (inl ([13, 14, 16] ++ rg 70 28)) (fun ⟨RQ, i105, G9, Ei, zh⟩ => [(70, (I6 i105))]) (fun ⟨RQ, i105, G9, Ei, zh⟩ w => SH w0 M BE w (hset [(1, .sr fC yg a.frames), (2, .sr (rU bC) xO a.cells), (3, .blk b1 [yg, xO, (I6 a.status), (I6 a.aL)]), (4, .blk b2 [(.slice none 0 0), (.slice none 0 0), (I6 0), (I6 0)]), (12, .own eP 3 u30 y28), (13, .blk Gx [u30]), (14, .own bg.raw 49 u37 (List.zip rY AZ)), (15, .ik (dS bC 51 hn AZ (List.map bg.sub rY))), (18, .blk Qf [u37, G9, (I6 fH.status), (I6 fH.aL)]), (183, .own (dZ Val).raw 47 G9 (List.zip zh Ei)), (184, .ik (dS bC 51 hn Ei (List.map (dZ Val).sub zh)))]) ∧ i105 = (RQ : Int) ∧ upto (jd y28 a) (lK rY fH) i105 (((y28.length : Int)).toNat - RQ) zh = some r) (fun ⟨RQ, i105, G9, Ei, zh⟩ => ((y28.length : Int)).toNat - RQ) ⟨0, 0, (.slice none 0 0), ([] : List Value), []⟩ ⟨rfl, trivial⟩ ?_ ?_
 exact ⟨h.cn _, rfl, hs⟩
 rintro ⟨RQ, i105, G9, Ei, zh⟩ w dO ⟨h, hik, hs⟩
 refine nG ?_
 refine aa (eB rfl rfl) (nN ?_)
 refine aM (gK rfl (fun e109 => ?_) (fun e109 => ?_))
 refine aH (ak ?_)
 rw [si (by have := p8 e109; omega)] at hs
 generalize hnx108 : upto (jd y28 a) (lK rY fH) (i105 + 1) (((y28.length : Int)).toNat - (RQ + 1)) = OQ at hs
 have e110r : jV (i105 + 1) := (by have := p8 e109; have := hli105; exact jV.mk (by omega) (by omega))
 refine aM (aO (nG ?_))
 obtain ⟨K3, Wj, hs⟩ := aK hs
 obtain ⟨b114, q115, i113⟩ := h.qY 12 rfl bV rfl (aB Wj).1 (aB Wj).2
 refine aa (i113 _ _ _ _ _ _ _ _ _ rfl rfl) ?_
 obtain ⟨cs116, m117, r118⟩ := h.uF 12 rfl q115 (aB Wj).2
 obtain rfl := r118
 refine aa (kH (k := 0) m117 aU rfl rfl) (aa (ae (v := (I6 K3)) rfl) (nJ (aa (ae (v := (.slice none 0 0)) rfl) (nK (aa (ag gF rfl) (aa (aA h 3 rfl jU rfl rfl) (aa (ah (v := (I6 K3)) rfl) ?_)))))))
 obtain ⟨Bg, e120, hs⟩ := aK hs
 obtain ⟨b122, o123, cs124, h, r125, i121⟩ := h.zP 2 185 rfl eQ rfl (aB e120).1 (aB e120).2
 obtain ⟨u126, rfl, g127⟩ := r125
 replace h := h.dA 186 g127.up
 refine aa (i121 _ _ _ _ _ _ _ _ _ rfl rfl) (aa (fq (k := 0) h 185 rfl j3 rfl rfl) (aa (bW aZ rfl (h.ny 186 rfl)) (aa (ah (v := (I6 0)) rfl) (nN (aO ?_)))))
 replace h := h.yj (R := bC) (E := 51) 190
 refine gu (σ := Nat × Int × Value × List Val) (inl ([14, 16] ++ rg 80 11)) (fun ⟨RS, i137, Kg, zH⟩ => [(14, Kg), (80, (I6 i137))]) (fun ⟨RS, i137, Kg, zH⟩ w => SH w0 M BE w (hset [(1, .sr fC yg a.frames), (2, .sr (rU bC) xO a.cells), (3, .blk b1 [yg, xO, (I6 a.status), (I6 a.aL)]), (4, .blk b2 [(.slice none 0 0), (.slice none 0 0), (I6 0), (I6 0)]), (12, .own eP 3 u30 y28), (13, .blk Gx [u30]), (14, .own bg.raw 49 u37 (List.zip rY AZ)), (15, .ik (dS bC 51 hn AZ (List.map bg.sub rY))), (18, .blk Qf [u37, G9, (I6 fH.status), (I6 fH.aL)]), (183, .own (dZ Val).raw 47 G9 (List.zip zh Ei)), (184, .ik (dS bC 51 hn Ei (List.map (dZ Val).sub zh))), (186, .rd bC u126 Bg), (190, .own bC 51 Kg zH)]) ∧ i137 = (RS : Int) ∧ each (jc y28) (nX zh OQ) (Bg.drop RS) zH = some r) (fun ⟨RS, i137, Kg, zH⟩ => Bg.length - RS) ⟨0, 0, (.slice none 0 0), []⟩ ⟨rfl, rfl, trivial⟩ ?_ ?_
 exact ⟨h.cn _, rfl, hs⟩
 rintro ⟨RS, i137, Kg, zH⟩ w dO ⟨h, hik, hs⟩
 refine nG ?_
 refine aa (eB rfl rfl) (nN ?_)
 refine aM (gK rfl (fun Rk => ?_) (fun Rk => ?_))
 refine aH (ak ?_)
 obtain ⟨rE, e142a, e142b⟩ := fU (hik ▸ Rk)
 rw [e142b, dV] at hs
 generalize hnx140 : each (jc y28) (nX zh OQ) (Bg.drop (RS + 1)) = OP at hs
 have e142r := gm ((h.ny 186 rfl)).bT hik Rk
 refine aM (aO (nG ?_))
 obtain ⟨b144, o145, cs146, h, r147, i143⟩ := h.Cm 186 191 rfl aZ rfl (iI hik) (fZ hik e142a)
 obtain rfl := r147
 refine aa (i143 _ _ _ _ _ _ _ _ _ rfl rfl) (aa (jo (k := 0) (vs := [(I6 rE.kind), (I6 rE.n)]) h 191 rfl aY rfl rfl rfl (bF rfl)) (bP h 192 aY fun w b148 h => dH (vs := [(I6 rE.kind), (I6 rE.n)]) h 192 [(I6 rE.kind), (I6 rE.n)] rfl aY rfl rfl rfl rfl rfl (ai rfl (ai rfl aS)) fun w h => nN (aC (aa (ah (v := Kg) rfl) (aa (ah (v := (.func (.func 67) #[] #[(.pointer (some ⟨Gx, 0, none⟩))])) rfl) (aa (dK (vs := [(I6 rE.kind), (I6 rE.n)]) h 192 rfl aY rfl rfl rfl) (lh (args := [(.agg #[(I6 rE.kind), (I6 rE.n)]), (.pointer (some ⟨Gx, 0, none⟩))]) YS rfl rfl (aQ (args := [(.agg #[(I6 rE.kind), (I6 rE.n)]), (.pointer (some ⟨Gx, 0, none⟩))]) Tryz.func67 rfl Tryz.ntmps67 (bF rfl) (nG (mD (cs := [(I6 rE.kind), (I6 rE.n)]) h 193 rfl rfl fun w b149 h => bP h 194 aY fun w b150 h => nN (bX (σ := Int) (inl (rg 4 8)) (fun y151 => []) (fun y151 w => SH w0 M BE w (hset [(1, .sr fC yg a.frames), (2, .sr (rU bC) xO a.cells), (3, .blk b1 [yg, xO, (I6 a.status), (I6 a.aL)]), (4, .blk b2 [(.slice none 0 0), (.slice none 0 0), (I6 0), (I6 0)]), (12, .own eP 3 u30 y28), (13, .blk Gx [u30]), (14, .own bg.raw 49 u37 (List.zip rY AZ)), (15, .ik (dS bC 51 hn AZ (List.map bg.sub rY))), (18, .blk Qf [u37, G9, (I6 fH.status), (I6 fH.aL)]), (183, .own (dZ Val).raw 47 G9 (List.zip zh Ei)), (184, .ik (dS bC 51 hn Ei (List.map (dZ Val).sub zh))), (186, .rd bC u126 Bg), (190, .own bC 51 Kg zH), (193, .blk b149 [(I6 rE.kind), (I6 y151)]), (194, .blk b150 [(I6 0), (I6 0)])]) ∧ nW zH rE OP y151 = some r) ?_ ?_)))))))))))
 rintro y151 w dO ⟨h, hs⟩
 refine nG (aa (dK (vs := [(I6 rE.kind), (I6 y151)]) h 193 rfl aY rfl rfl rfl) (dH (vs := [(I6 rE.kind), (I6 y151)]) h 194 [(I6 rE.kind), (I6 y151)] rfl aY rfl rfl rfl rfl rfl (ai rfl (ai rfl aS)) fun w h => nR (Oi (vs := [(I6 rE.kind), (I6 y151)]) Tryz.results67 rfl h 194 rfl aY rfl (⟨_, rfl, ?_⟩))))
 refine tL (R := bC) (vs := [(.agg #[(I6 rE.kind), (I6 y151)])]) (xs := [(⟨rE.kind, y151⟩ : Val)]) h 195 kL rfl rfl rfl ⟨rfl, trivial⟩ rfl fun w u152 h => ?_
 obtain ⟨a153, hs⟩ := bB hs
 refine lV (R := bC) (m := [(⟨rE.kind, y151⟩ : Val)]) h 190 rfl (h.eG 195 rfl) kL rfl rfl rfl a153.1 a153.2 fun w u154 h => aa (ae (v := u154) rfl) (az (ax (ak (aC (aa (dP rfl rfl e142r) (aa (ah (v := (I6 ((i137 + 1)))) rfl) (az (au ?_))))))))
 subst hnx140
 exact jB ⟨RS + 1, i137 + 1, u154, (zH ++ [(⟨rE.kind, y151⟩ : Val)])⟩ ⟨h.cn _, by omega, hs⟩ (by have := p8 Rk; dsimp only; omega)
 refine nG (aa (ag mW rfl) (aa (aA h 193 rfl aU rfl rfl) (aa (bz rfl rfl) (nN (aI hs rfl (fun c155 hs => ?_) (fun c155 hs => ?_))))))
 refine aC (aa (aA h 13 rfl qD rfl rfl) (aa (ag fu rfl) (aa (aA h 193 rfl aU rfl rfl) ?_)))
 obtain ⟨y156, e157, hs⟩ := aK hs
 refine aX Tj rfl rfl (wJ _ _ h.lt u30 y28 (h.eG 12 rfl) rE.n _ e157) ?_
 rintro _ w ⟨k158, rfl⟩
 refine ⟨_, rfl, ?_⟩
 replace h := h.grow k158
 refine aa (ag fu rfl) (gq h 193 [(I6 rE.kind), (I6 y156)] rfl aU rfl rfl rfl rfl rfl fun w h => az (au ?_))
 exact bQ y156 ⟨h.cn _, hs⟩
 refine aH (au ?_)
 exact bQ rE.n ⟨h.cn _, hs⟩
 rw [fV (hik ▸ Rk), fQ] at hs
 refine iL (bI (bI (eH (ak (aC (aa (ag gF rfl) (aa (aA h 18 rfl jU rfl rfl) (aa (ah (v := Kg) rfl) ?_))))))))
 have u159o : (Value.oneCell' Kg) = true := (h.dm 190 rfl).one
 refine tL (R := (dZ Val).raw) (vs := [Kg]) (xs := List.zip [zH] [Kg]) h 196 kK rfl rfl rfl ⟨⟨fM u159o, u159o⟩, trivial⟩ rfl fun w u159 h => ?_
 replace h := h.pR (N := (dZ Val)) 190 zH rfl rfl
 obtain ⟨a160, hs⟩ := bB hs
 have z162 := h.fD 184 rfl
 have z162b := h.fD 190 rfl
 refine lV (R := (dZ Val).raw) (m := List.zip [zH] [Kg]) h 183 rfl (h.eG 196 rfl) kK rfl rfl rfl (by rw [bS z162, bS z162b]; exact a160.1) (by rw [bS z162, bS z162b]; exact a160.2) fun w u161 h => ?_
 replace h := (h.pO 184 190 rfl rfl (by decide)).fA 196
 rw [pQ z162, ← List.map_append] at h
 obtain ⟨us163, us163e⟩ : ∃ z, z = Ei ++ [Kg] := ⟨_, rfl⟩
 rw [← us163e] at h
 refine aa (ag gF rfl) (gq h 18 [u37, u161, (I6 fH.status), (I6 fH.aL)] rfl jU rfl rfl rfl rfl (h.dm 183 rfl).one fun w h => az (ax (ak (aC (aa (dP rfl rfl e110r) (aa (ah (v := (I6 ((i105 + 1)))) rfl) (az (au ?_))))))))
 subst hnx108
 exact jB ⟨RQ + 1, i105 + 1, u161, us163, (zh ++ [zH])⟩ ⟨h.cn _, by omega, hs⟩ (by have := p8 e109; dsimp only; omega)
 rw [sj (by have := of_decide_eq_false e109; omega)] at hs
 refine nE (aa (dK (vs := [u37, G9, (I6 fH.status), (I6 fH.aL)]) h 18 rfl bM rfl rfl rfl) (dH (vs := [u37, G9, (I6 fH.status), (I6 fH.aL)]) h 4 [u37, G9, (I6 fH.status), (I6 fH.aL)] rfl bM rfl rfl rfl rfl rfl (ai (h.dm 14 rfl).one (ai (h.dm 183 rfl).one (ai rfl (ai rfl aS)))) fun w h => nR (Oi (vs := [u37, G9, (I6 fH.status), (I6 fH.aL)]) Tryz.results31 rfl h 4 rfl bM rfl ?_)))
 replace h := h.pair 14 15 (by decide)
 replace h := h.pair 14 183 (by decide)
 replace h := h.pair 14 184 (by decide)
 obtain rfl := fP hs
 obtain ⟨o1, o2, o3⟩ := h.kJ 14 (C := (cU u37 G9 rY AZ zh Ei)) rfl ⟨⟨⟨trivial, trivial⟩, trivial⟩, trivial⟩
 exact ⟨o2, u37, G9, AZ, Ei, rfl, o1, Iq o3⟩
def tF (a : Int) (b : Val) (c : Val) : Option (Val × Bool) :=
  bif decide ((a : Int) = 5) then some ((⟨(bif (decide (b.kind = c.kind) && decide (b.n = c.n)) then 1 else 1), (bif (decide (b.kind = c.kind) && decide (b.n = c.n)) then 1 else 0)⟩ : Val), true) else bif (decide ((b.kind : Int) ≠ 1) || decide ((c.kind : Int) ≠ 1)) then some ((⟨0, 0⟩ : Val), false) else bif decide ((a : Int) = 4) then some ((⟨(bif decide ((b.n : Int) < c.n) then 1 else 1), (bif decide ((b.n : Int) < c.n) then 1 else 0)⟩ : Val), true) else ib (jV (b.n + c.n)) (ib (jV (b.n - c.n)) (ib (jV (b.n * c.n)) ((idx [0, (b.n + c.n), (b.n - c.n), (b.n * c.n)] a).bind fun yl => some ((⟨1, yl⟩ : Val), (dU yl)))))
theorem zK (w0 : World) (M : BS) (hM : ∀ b, M b → b < w0.heap.size) (a : Int) (b : Val) (c : Val) (r : Val × Bool) (hs : tF a b c = some r) :
    Calls Tryz.prog 94 #[(I6 a), (.agg #[(I6 b.kind), (I6 b.n)]), (.agg #[(I6 c.kind), (I6 c.n)])] w0 (fun e w' => Grow w0 w' ∧ e = .returned (.tuple #[.agg #[.int .i64 r.1.kind, .int .i64 r.1.n], .bool r.2])) := by
 refine aQ (args := [(I6 a), (.agg #[(I6 b.kind), (I6 b.n)]), (.agg #[(I6 c.kind), (I6 c.n)])]) Tryz.func94 rfl Tryz.ntmps94 (bF rfl) ?_
 have h := SH.init hM
 refine nG (mD (cs := [(I6 b.kind), (I6 b.n)]) h 1 rfl rfl fun w b1 h => mD (cs := [(I6 c.kind), (I6 c.n)]) h 2 rfl rfl fun w b2 h => bP h 3 aY fun w b3 h => aa (ae (v := (.bool (false))) rfl) (nJ (Tg h 4 fun w b4 h => aa (ek (pv := [(0, (I6 1)), (1, (I6 1))]) (out := [(I6 1), (I6 1)]) qE rfl ⟨0, 1, [(I6 1)], rfl, rfl, rfl, bF rfl, ⟨1, 1, [(I6 1)], rfl, rfl, rfl, bF rfl, rfl⟩⟩) (Om (ko := [(true, (.agg #[(I6 1), (I6 1)]))]) h 4 rfl FK rfl rfl rfl rfl fun w h => aa (ek (pv := [(0, (I6 1))]) (out := [(I6 1), (I6 0)]) qE rfl ⟨0, 1, [(I6 1)], rfl, rfl, rfl, bF rfl, rfl⟩) (Om (ko := [(true, (.agg #[(I6 1), (I6 1)])), (false, (.agg #[(I6 1), (I6 0)]))]) h 4 rfl FK rfl rfl rfl rfl fun w h => aa (ah (v := (.map (some b4))) rfl) (aa (ae (v := (.map (some b4))) rfl) (nK (aa (ah (v := (I6 a)) rfl) (aa (bz rfl rfl) ?_)))))))))
 refine nN (aI hs rfl (fun c5 hs => ?_) (fun c5 hs => ?_))
 refine nG (aa (ah (v := (.map (some b4))) rfl) (aa (dK (vs := [(I6 b.kind), (I6 b.n)]) h 1 rfl aY rfl rfl rfl) (aa (dK (vs := [(I6 c.kind), (I6 c.n)]) h 2 rfl aY rfl rfl rfl) (aa (Yk PY rfl rfl) (aa (r_lkB h 4 rfl FK rfl rfl) (dH (vs := [(I6 ((bif (decide (b.kind = c.kind) && decide (b.n = c.n)) then 1 else 1))), (I6 ((bif (decide (b.kind = c.kind) && decide (b.n = c.n)) then 1 else 0)))]) h 3 [(I6 ((bif (decide (b.kind = c.kind) && decide (b.n = c.n)) then 1 else 1))), (I6 ((bif (decide (b.kind = c.kind) && decide (b.n = c.n)) then 1 else 0)))] rfl aY rfl rfl rfl rfl rfl (ai rfl (ai rfl aS)) fun w h => aa (ae (v := (.bool (true))) rfl) (nR (ay (ll (vs := [(I6 ((bif (decide (b.kind = c.kind) && decide (b.n = c.n)) then 1 else 1))), (I6 ((bif (decide (b.kind = c.kind) && decide (b.n = c.n)) then 1 else 0)))]) (v2 := (.bool (true))) Tryz.results94 rfl rfl h 3 rfl aY rfl ?_)))))))))
 obtain rfl := fP hs
 exact ⟨h.grown, rfl⟩
 refine aH (ak (aM (nG (aa (ag mW rfl) (aa (aA h 1 rfl aU rfl rfl) (aa (iA rfl rfl) (aa (ah (v := (.bool (decide ((b.kind : Int) ≠ 1)))) rfl) (aG rfl rfl (fun q => ag mW rfl) (aG rfl rfl (fun q => aA h 2 rfl aU (eD q) rfl) (aG rfl rfl (fun q => iA (eD q) rfl) (aa (iJ rfl rfl nC) (nN (aI hs rfl (fun c6 hs => ?_) (fun c6 hs => ?_))))))))))))))
 refine nG (aa (ek (pv := []) (out := [(I6 0), (I6 0)]) qE rfl rfl) (dH (vs := [(I6 0), (I6 0)]) h 3 [(I6 0), (I6 0)] rfl aY rfl rfl rfl rfl rfl (ai rfl (ai rfl aS)) fun w h => aa (ae (v := (.bool (false))) rfl) (nR (ay (ll (vs := [(I6 0), (I6 0)]) (v2 := (.bool (false))) Tryz.results94 rfl rfl h 3 rfl aY rfl ?_)))))
 obtain rfl := fP hs
 exact ⟨h.grown, rfl⟩
 refine aH (ak (aM (nG (aa (ah (v := (I6 a)) rfl) (aa (bz rfl rfl) (nN (aI hs rfl (fun c7 hs => ?_) (fun c7 hs => ?_))))))))
 refine nG (aa (ah (v := (.map (some b4))) rfl) (aa (ag fu rfl) (aa (aA h 1 rfl aU rfl rfl) (aa (ag fu rfl) (aa (aA h 2 rfl aU rfl rfl) (aa (eB rfl rfl) (aa (r_lkB h 4 rfl FK rfl rfl) (dH (vs := [(I6 ((bif decide ((b.n : Int) < c.n) then 1 else 1))), (I6 ((bif decide ((b.n : Int) < c.n) then 1 else 0)))]) h 3 [(I6 ((bif decide ((b.n : Int) < c.n) then 1 else 1))), (I6 ((bif decide ((b.n : Int) < c.n) then 1 else 0)))] rfl aY rfl rfl rfl rfl rfl (ai rfl (ai rfl aS)) fun w h => aa (ae (v := (.bool (true))) rfl) (nR (ay (ll (vs := [(I6 ((bif decide ((b.n : Int) < c.n) then 1 else 1))), (I6 ((bif decide ((b.n : Int) < c.n) then 1 else 0)))]) (v2 := (.bool (true))) Tryz.results94 rfl rfl h 3 rfl aY rfl ?_)))))))))))
 obtain rfl := fP hs
 exact ⟨h.grown, rfl⟩
 refine nS (aa (ag fu rfl) (aa (aA h 1 rfl aU rfl rfl) (aa (ag fu rfl) (aa (aA h 2 rfl aU rfl rfl) ?_))))
 obtain ⟨a8, hs⟩ := bB hs
 refine aa (dP rfl rfl a8) (aa (ag fu rfl) (aa (aA h 1 rfl aU rfl rfl) (aa (ag fu rfl) (aa (aA h 2 rfl aU rfl rfl) ?_))))
 obtain ⟨a9, hs⟩ := bB hs
 refine aa (mV rfl rfl a9) (aa (ag fu rfl) (aa (aA h 1 rfl aU rfl rfl) (aa (ag fu rfl) (aa (aA h 2 rfl aU rfl rfl) ?_))))
 obtain ⟨a10, hs⟩ := bB hs
 refine aa (r_mul rfl rfl a10) (tL (R := eP) (vs := [(I6 0), (I6 ((b.n + c.n))), (I6 ((b.n - c.n))), (I6 ((b.n * c.n)))]) (xs := [0, (b.n + c.n), (b.n - c.n), (b.n * c.n)]) h 5 jC rfl rfl rfl ⟨rfl, ⟨rfl, ⟨rfl, ⟨rfl, trivial⟩⟩⟩⟩ rfl fun w u11 h => aa (ah (v := (I6 a)) rfl) ?_)
 obtain ⟨yl, e13, hs⟩ := aK hs
 obtain ⟨b15, q16, i14⟩ := h.qY 5 rfl bV rfl (aB e13).1 (aB e13).2
 refine aa (i14 _ _ _ _ _ _ _ _ _ rfl rfl) ?_
 obtain ⟨cs17, m18, r19⟩ := h.uF 5 rfl q16 (aB e13).2
 obtain rfl := r19
 refine aa (kH (k := 0) m18 aU rfl rfl) (aa (ae (v := (I6 yl)) rfl) (nJ (aa (ah (v := (I6 yl)) rfl) (aa (ek (pv := [(0, (I6 1)), (1, (I6 yl))]) (out := [(I6 1), (I6 yl)]) qE rfl ⟨0, 1, [(I6 1)], rfl, rfl, rfl, bF rfl, ⟨1, 1, [(I6 yl)], rfl, rfl, rfl, bF rfl, rfl⟩⟩) (aa (ah (v := (I6 yl)) rfl) (aX Ti rfl rfl (wC _ _ h.lt yl _ rfl) ?_))))))
 rintro _ w ⟨k20, rfl⟩
 refine ⟨_, rfl, ?_⟩
 replace h := h.grow k20
 refine dH (vs := [(I6 1), (I6 yl)]) h 3 [(I6 1), (I6 yl)] rfl aY rfl rfl rfl rfl rfl (ai rfl (ai rfl aS)) fun w h => aa (ae (v := (.bool ((dU yl)))) rfl) (nR (ll (vs := [(I6 1), (I6 yl)]) (v2 := (.bool ((dU yl)))) Tryz.results94 rfl rfl h 3 rfl aY rfl ?_))
 obtain rfl := fP hs
 exact ⟨h.grown, rfl⟩
end
end Go.Proofs.YtfclkapelkhlpaaGreatDoor
