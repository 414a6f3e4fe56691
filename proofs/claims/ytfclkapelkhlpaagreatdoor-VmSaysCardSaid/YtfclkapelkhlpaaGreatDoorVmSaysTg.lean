/-
  What the law VmSays needs of our own library and of the walks, no more.
-/
import Derived.Test.YtfclkapelkhlpaaGreatDoorProg
import Derived.Test.YtfclkapelkhlpaaGreatDoorVmSaysTf
set_option linter.unusedSimpArgs false
set_option linter.unusedVariables false
set_option maxRecDepth 10000
namespace Go.Proofs.YtfclkapelkhlpaaGreatDoor
open Go Go.Proofs Go.LX
noncomputable section
def iR (a : Ins) (b : bX) (zZ : Int) (s : Unit) (nx46 : Unit → Option Int) : Option Int :=
  bif (decide ((a.op : Int) = 7) && (!(aJ zZ b.regs))) then some 3 else nx46 ()
def bP (s : Unit) : Option Int :=
  some 0
def dn (a : Ins) (i27 : Int) (x28 : Int) (s : Unit) (nx30 : Unit → Option Int) : Option Int :=
  (idx ((lk a.op ([(1, [114, 110, 45]), (2, [114, 114, 45]), (3, [114, 114, 114]), (4, [114, 114, 110]), (5, [114, 110, 45]), (6, [114, 114, 110]), (7, [114, 110, 45]), (8, [114, 45, 45]), (9, [114, 45, 45]), (10, [45, 45, 45]), (11, [114, 45, 45]), (12, [45, 110, 45]), (13, [114, 110, 45])] : List (Int × Str))).getD []) i27).bind fun x38 => bif (decide (((x38.toNat : Int) : Int) = 45) && decide ((x28 : Int) ≠ 0)) then some 4 else nx30 ()
def dw (a : Ins) (uM : Int) (b : bX) (s : Unit) : Option Int :=
  bif decide (((a.args.length : Int) : Int) ≠ uM) then some 4 else each (iR a b) bP a.args ()
def bF (a : Ins) (b : bX) (c : List bX) (x22 : Bool) (uM : Int) : Option Int :=
  bif (!x22) then some 3 else dZ (dn a) (dw a uM b) 0 [a.a, a.b, a.c] ()
def dx (a : Ins) (b : bX) (c : List bX) (x85 : Bool) : Option Int :=
  bif x85 then bF a b c (aJ a.b (b.code.length : Int)) 0 else bF a b c ((lk a.op ([(1, [114, 110, 45]), (2, [114, 114, 45]), (3, [114, 114, 114]), (4, [114, 114, 110]), (5, [114, 110, 45]), (6, [114, 114, 110]), (7, [114, 110, 45]), (8, [114, 45, 45]), (9, [114, 45, 45]), (10, [45, 45, 45]), (11, [114, 45, 45]), (12, [45, 110, 45]), (13, [114, 110, 45])] : List (Int × Str))).isSome) 0
def dz (a : Ins) (b : bX) (c : List bX) (x72 : Bool) : Option Int :=
  bif x72 then bF a b c (aO a.c 0 3) 0 else bif decide ((a.op : Int) = 3) then bif decide (((a.args.length : Int) : Int) = 1) then (idx a.args 0).bind fun Q9 => bF a b c (aO Q9 1 5) 1 else bF a b c false 1 else bif decide ((a.op : Int) = 12) then dx a b c (decide ((a.op : Int) = 12)) else dx a b c (decide ((a.op : Int) = 13))
def dA (a : Ins) (b : bX) (i7 : Int) (x8 : Int) (s : Unit) (Qv : Unit → Option Int) : Option Int :=
  (idx ((lk a.op ([(1, [114, 110, 45]), (2, [114, 114, 45]), (3, [114, 114, 114]), (4, [114, 114, 110]), (5, [114, 110, 45]), (6, [114, 114, 110]), (7, [114, 110, 45]), (8, [114, 45, 45]), (9, [114, 45, 45]), (10, [45, 45, 45]), (11, [114, 45, 45]), (12, [45, 110, 45]), (13, [114, 110, 45])] : List (Int × Str))).getD []) i7).bind fun AU => bif (decide (((AU.toNat : Int) : Int) = 114) && (!(aJ x8 b.regs))) then some 3 else Qv ()
def dB (a : Ins) (b : bX) (c : List bX) (s : Unit) : Option Int :=
  bif decide ((a.op : Int) = 7) then bif (!(aJ a.b (c.length : Int))) then some 5 else (idx c a.b).bind fun x59 => bF a b c ((lk a.op ([(1, [114, 110, 45]), (2, [114, 114, 45]), (3, [114, 114, 114]), (4, [114, 114, 110]), (5, [114, 110, 45]), (6, [114, 114, 110]), (7, [114, 110, 45]), (8, [114, 45, 45]), (9, [114, 45, 45]), (10, [45, 45, 45]), (11, [114, 45, 45]), (12, [45, 110, 45]), (13, [114, 110, 45])] : List (Int × Str))).isSome) x59.params else bif decide ((a.op : Int) = 1) then bF a b c (dW a.b) 0 else bif decide ((a.op : Int) = 5) then bF a b c (aO a.b 1 4) 0 else bif decide ((a.op : Int) = 4) then dz a b c (decide ((a.op : Int) = 4)) else dz a b c (decide ((a.op : Int) = 6))
def dO (a : Ins) (b : bX) (c : List bX) : Option Int :=
  bif (!(lk a.op ([(1, [114, 110, 45]), (2, [114, 114, 45]), (3, [114, 114, 114]), (4, [114, 114, 110]), (5, [114, 110, 45]), (6, [114, 114, 110]), (7, [114, 110, 45]), (8, [114, 45, 45]), (9, [114, 45, 45]), (10, [45, 45, 45]), (11, [114, 45, 45]), (12, [45, 110, 45]), (13, [114, 110, 45])] : List (Int × Str))).isSome) then some 4 else dZ (dA a b) (dB a b c) 0 [a.a, a.b, a.c] ()
theorem Ev (w0 : World) (M : BS) (hM : ∀ b, M b → b < w0.heap.size) (a : Ins) (AX : Value) (ha4 : gB eY w0 BE M AX a.args) (b : bX) (TI : Value) (hb2 : gB kU w0 BE M TI b.code) (vc : Value) (c : List bX) (hc : gB jE w0 BE M vc c) (r : Int) (hs : dO a b c = some r) :
    Calls Tryz.prog 52 #[(.agg #[(I6 a.op), (I6 a.a), (I6 a.b), (I6 a.c), AX]), (.agg #[(I6 b.params), (I6 b.regs), TI]), vc] w0 (fun e w' => Grow w0 w' ∧ e = .returned (.int .i64 r)) := by
 refine aQ (args := [(.agg #[(I6 a.op), (I6 a.a), (I6 a.b), (I6 a.c), AX]), (.agg #[(I6 b.params), (I6 b.regs), TI]), vc]) Tryz.func52 rfl Tryz.ntmps52 (bD rfl) ?_
 have h := SH.init hM
 replace h := h.fE 1 ha4 bA
 replace h := h.fE 2 hb2 (bN bA)
 replace h := h.fE 3 hc (bN (bN bA))
 have hl_c := hc.bT
 refine nG (kM (cs := [(I6 a.op), (I6 a.a), (I6 a.b), (I6 a.c), AX]) h 4 rfl rfl fun w b1 h => kM (cs := [(I6 b.params), (I6 b.regs), TI]) h 5 rfl rfl fun w b2 h => aa (ae (v := (I6 0)) rfl) (nJ (CQ h 6 fun w b3 h => jq (kT := [(1, (aV [114, 110, 45]))]) h 6 rfl iP rfl rfl rfl rfl fun w h => jq (kT := [(1, (aV [114, 110, 45])), (2, (aV [114, 114, 45]))]) h 6 rfl iP rfl rfl rfl rfl fun w h => jq (kT := [(1, (aV [114, 110, 45])), (2, (aV [114, 114, 45])), (3, (aV [114, 114, 114]))]) h 6 rfl iP rfl rfl rfl rfl fun w h => jq (kT := [(1, (aV [114, 110, 45])), (2, (aV [114, 114, 45])), (3, (aV [114, 114, 114])), (4, (aV [114, 114, 110]))]) h 6 rfl iP rfl rfl rfl rfl fun w h => jq (kT := [(1, (aV [114, 110, 45])), (2, (aV [114, 114, 45])), (3, (aV [114, 114, 114])), (4, (aV [114, 114, 110])), (5, (aV [114, 110, 45]))]) h 6 rfl iP rfl rfl rfl rfl fun w h => jq (kT := [(1, (aV [114, 110, 45])), (2, (aV [114, 114, 45])), (3, (aV [114, 114, 114])), (4, (aV [114, 114, 110])), (5, (aV [114, 110, 45])), (6, (aV [114, 114, 110]))]) h 6 rfl iP rfl rfl rfl rfl fun w h => jq (kT := [(1, (aV [114, 110, 45])), (2, (aV [114, 114, 45])), (3, (aV [114, 114, 114])), (4, (aV [114, 114, 110])), (5, (aV [114, 110, 45])), (6, (aV [114, 114, 110])), (7, (aV [114, 110, 45]))]) h 6 rfl iP rfl rfl rfl rfl fun w h => jq (kT := [(1, (aV [114, 110, 45])), (2, (aV [114, 114, 45])), (3, (aV [114, 114, 114])), (4, (aV [114, 114, 110])), (5, (aV [114, 110, 45])), (6, (aV [114, 114, 110])), (7, (aV [114, 110, 45])), (8, (aV [114, 45, 45]))]) h 6 rfl iP rfl rfl rfl rfl fun w h => jq (kT := [(1, (aV [114, 110, 45])), (2, (aV [114, 114, 45])), (3, (aV [114, 114, 114])), (4, (aV [114, 114, 110])), (5, (aV [114, 110, 45])), (6, (aV [114, 114, 110])), (7, (aV [114, 110, 45])), (8, (aV [114, 45, 45])), (9, (aV [114, 45, 45]))]) h 6 rfl iP rfl rfl rfl rfl fun w h => jq (kT := [(1, (aV [114, 110, 45])), (2, (aV [114, 114, 45])), (3, (aV [114, 114, 114])), (4, (aV [114, 114, 110])), (5, (aV [114, 110, 45])), (6, (aV [114, 114, 110])), (7, (aV [114, 110, 45])), (8, (aV [114, 45, 45])), (9, (aV [114, 45, 45])), (10, (aV [45, 45, 45]))]) h 6 rfl iP rfl rfl rfl rfl fun w h => jq (kT := [(1, (aV [114, 110, 45])), (2, (aV [114, 114, 45])), (3, (aV [114, 114, 114])), (4, (aV [114, 114, 110])), (5, (aV [114, 110, 45])), (6, (aV [114, 114, 110])), (7, (aV [114, 110, 45])), (8, (aV [114, 45, 45])), (9, (aV [114, 45, 45])), (10, (aV [45, 45, 45])), (11, (aV [114, 45, 45]))]) h 6 rfl iP rfl rfl rfl rfl fun w h => jq (kT := [(1, (aV [114, 110, 45])), (2, (aV [114, 114, 45])), (3, (aV [114, 114, 114])), (4, (aV [114, 114, 110])), (5, (aV [114, 110, 45])), (6, (aV [114, 114, 110])), (7, (aV [114, 110, 45])), (8, (aV [114, 45, 45])), (9, (aV [114, 45, 45])), (10, (aV [45, 45, 45])), (11, (aV [114, 45, 45])), (12, (aV [45, 110, 45]))]) h 6 rfl iP rfl rfl rfl rfl fun w h => jq (kT := [(1, (aV [114, 110, 45])), (2, (aV [114, 114, 45])), (3, (aV [114, 114, 114])), (4, (aV [114, 114, 110])), (5, (aV [114, 110, 45])), (6, (aV [114, 114, 110])), (7, (aV [114, 110, 45])), (8, (aV [114, 45, 45])), (9, (aV [114, 45, 45])), (10, (aV [45, 45, 45])), (11, (aV [114, 45, 45])), (12, (aV [45, 110, 45])), (13, (aV [114, 110, 45]))]) h 6 rfl iP rfl rfl rfl rfl fun w h => aa (ah (v := (.map (some b3))) rfl) ?_)))
 refine aa (ag ni rfl) (aa (az h 4 rfl aR rfl rfl) (aa (r_lk2 (f := aV) (zz := []) ([(1, [114, 110, 45]), (2, [114, 114, 45]), (3, [114, 114, 114]), (4, [114, 114, 110]), (5, [114, 110, 45]), (6, [114, 114, 110]), (7, [114, 110, 45]), (8, [114, 45, 45]), (9, [114, 45, 45]), (10, [45, 45, 45]), (11, [114, 45, 45]), (12, [45, 110, 45]), (13, [114, 110, 45])] : List (Int × Str)) h 6 rfl iP rfl rfl rfl rfl) (aa (ah (v := (.tuple #[(aV ((lk a.op ([(1, [114, 110, 45]), (2, [114, 114, 45]), (3, [114, 114, 114]), (4, [114, 114, 110]), (5, [114, 110, 45]), (6, [114, 114, 110]), (7, [114, 110, 45]), (8, [114, 45, 45]), (9, [114, 45, 45]), (10, [45, 45, 45]), (11, [114, 45, 45]), (12, [45, 110, 45]), (13, [114, 110, 45])] : List (Int × Str))).getD [])), (.bool ((lk a.op ([(1, [114, 110, 45]), (2, [114, 114, 45]), (3, [114, 114, 114]), (4, [114, 114, 110]), (5, [114, 110, 45]), (6, [114, 114, 110]), (7, [114, 110, 45]), (8, [114, 45, 45]), (9, [114, 45, 45]), (10, [45, 45, 45]), (11, [114, 45, 45]), (12, [45, 110, 45]), (13, [114, 110, 45])] : List (Int × Str))).isSome))])) rfl) (aa (bg rfl rfl) (aa (bg rfl rfl) (aa (ae (v := (aV ((lk a.op ([(1, [114, 110, 45]), (2, [114, 114, 45]), (3, [114, 114, 114]), (4, [114, 114, 110]), (5, [114, 110, 45]), (6, [114, 114, 110]), (7, [114, 110, 45]), (8, [114, 45, 45]), (9, [114, 45, 45]), (10, [45, 45, 45]), (11, [114, 45, 45]), (12, [45, 110, 45]), (13, [114, 110, 45])] : List (Int × Str))).getD []))) rfl) (aa (ae (v := (.bool ((lk a.op ([(1, [114, 110, 45]), (2, [114, 114, 45]), (3, [114, 114, 114]), (4, [114, 114, 110]), (5, [114, 110, 45]), (6, [114, 114, 110]), (7, [114, 110, 45]), (8, [114, 45, 45]), (9, [114, 45, 45]), (10, [45, 45, 45]), (11, [114, 45, 45]), (12, [45, 110, 45]), (13, [114, 110, 45])] : List (Int × Str))).isSome))) rfl) (nK (aa (ah (v := (.bool ((lk a.op ([(1, [114, 110, 45]), (2, [114, 114, 45]), (3, [114, 114, 114]), (4, [114, 114, 110]), (5, [114, 110, 45]), (6, [114, 114, 110]), (7, [114, 110, 45]), (8, [114, 45, 45]), (9, [114, 45, 45]), (10, [45, 45, 45]), (11, [114, 45, 45]), (12, [45, 110, 45]), (13, [114, 110, 45])] : List (Int × Str))).isSome))) rfl) (aa (fw rfl) (nN (aI hs rfl (fun c4 hs => ?_) (fun c4 hs => ?_)))))))))))))
 refine nG (aa (ae (v := (I6 4)) rfl) (nR (ay (bR (v := (I6 4)) Tryz.results52 rfl ?_))))
 obtain rfl := fM hs
 exact ⟨h.grown, rfl⟩
 refine aH (ak (aM (nG (aa (ag jy rfl) (aa (az h 4 rfl aR rfl rfl) (aa (ag gN rfl) (aa (az h 4 rfl aR rfl rfl) (aa (ag nk rfl) (aa (az h 4 rfl aR rfl rfl) (sV (R := eY) (vs := [(I6 a.a), (I6 a.b), (I6 a.c)]) (xs := [a.a, a.b, a.c]) h 7 kI rfl rfl rfl ⟨rfl, ⟨rfl, ⟨rfl, trivial⟩⟩⟩ rfl fun w u5 h => aa (bM bZ rfl (h.eT 7 rfl)) (aa (ah (v := (I6 0)) rfl) (nN (aN ?_)))))))))))))
 replace h := h.freeze 7 rfl
 refine gD (σ := Nat × Int) (inl ([6, 9, 10] ++ rg 34 17)) (fun ⟨k6, i7⟩ => [(34, (I6 i7))]) (fun ⟨k6, i7⟩ w => SH w0 M BE w (hset [(1, .sr eY AX a.args), (2, .sr kU TI b.code), (3, .sr jE vc c), (4, .blk b1 [(I6 a.op), (I6 a.a), (I6 a.b), (I6 a.c), AX]), (5, .blk b2 [(I6 b.params), (I6 b.regs), TI]), (7, .rd eY u5 [a.a, a.b, a.c])]) ∧ i7 = (k6 : Int) ∧ dZ (dA a b) (dB a b c) i7 ([a.a, a.b, a.c].drop k6) () = some r) (fun ⟨k6, i7⟩ => [a.a, a.b, a.c].length - k6) ⟨0, 0⟩ ⟨rfl, trivial⟩ ?_ ?_
 exact ⟨h.cn _, rfl, hs⟩
 rintro ⟨k6, i7⟩ w dR ⟨h, hik, hs⟩
 refine nG ?_
 refine aa (eO rfl rfl) (nN ?_)
 refine aM (gQ rfl (fun e11 => ?_) (fun e11 => ?_))
 refine aH (ak ?_)
 obtain ⟨x8, e12a, e12b⟩ := fG (hik ▸ e11)
 rw [e12b, iQ] at hs
 generalize Z6 : dZ (dA a b) (dB a b c) (i7 + 1) ([a.a, a.b, a.c].drop (k6 + 1)) = Qv at hs
 have e12r := fJ ((h.kL 7 rfl)).bT hik e11
 refine aM (aN (nG (aa (ah (v := (I6 i7)) rfl) ?_)))
 obtain ⟨b14, o15, cs16, h, r17, i13⟩ := h.Cn 7 8 rfl bZ rfl (ig hik) (fI hik e12a)
 obtain rfl := r17
 refine aa (i13 _ _ _ _ _ _ _ _ _ rfl rfl) (aa (fo (k := 0) h 8 rfl aR rfl rfl) (aa (ae (v := (I6 i7)) rfl) (aa (ae (v := (I6 x8)) rfl) (nJ (aa (ah (v := (aV ((lk a.op ([(1, [114, 110, 45]), (2, [114, 114, 45]), (3, [114, 114, 114]), (4, [114, 114, 110]), (5, [114, 110, 45]), (6, [114, 114, 110]), (7, [114, 110, 45]), (8, [114, 45, 45]), (9, [114, 45, 45]), (10, [45, 45, 45]), (11, [114, 45, 45]), (12, [45, 110, 45]), (13, [114, 110, 45])] : List (Int × Str))).getD []))) rfl) (aa (ah (v := (I6 i7)) rfl) ?_))))))
 obtain ⟨AU, e19, hs⟩ := aL hs
 refine aa (Rs Tryz.underlying9 rfl rfl (aC e19).1 (aC e19).2) (aa (bu rfl rfl) (aa (ah (v := (.bool (decide (((AU.toNat : Int) : Int) = 114)))) rfl) (aF rfl rfl (fun q => ah (v := (I6 x8)) rfl) (aF rfl rfl (fun q => ag vK rfl) (aF rfl rfl (fun q => az h 5 rfl aR (eu q) rfl) (zn rfl rfl Bd rfl (fun q => jP (eu q) (jP (eu q) rfl)) (gX _ _ h.lt x8 b.regs _ rfl) fun w k20 => ?_))))))
 replace h := h.grow k20
 refine aF rfl rfl (fun q => fw (eu q)) (aa (fZ rfl rfl mY) (nN (aI hs rfl (fun c21 hs => ?_) (fun c21 hs => ?_))))
 refine nG (aa (ae (v := (I6 3)) rfl) (nR (aB (ay (ay (aB (ay (bR (v := (I6 3)) Tryz.results52 rfl ?_))))))))
 obtain rfl := fM hs
 exact ⟨h.grown, rfl⟩
 refine aH (ax (ak (aD (aa (dQ rfl rfl e12r) (aa (ah (v := (I6 ((i7 + 1)))) rfl) (aA (au ?_)))))))
 subst Z6
 exact jM ⟨k6 + 1, i7 + 1⟩ ⟨h.cn _, by omega, hs⟩ (by have := oD e11; dsimp only; omega)
 rw [fH (hik ▸ e11), ll] at hs
 refine nE (aa (ae (v := (I6 0)) rfl) (nN (cu (σ := Bool × Int) (inl ([6, 8, 11] ++ rg 51 54)) (fun ⟨x22, uM⟩ => [(8, (.bool (x22))), (11, (I6 uM))]) (fun ⟨x22, uM⟩ w => SH w0 M BE w (hset [(1, .sr eY AX a.args), (2, .sr kU TI b.code), (4, .blk b1 [(I6 a.op), (I6 a.a), (I6 a.b), (I6 a.c), AX]), (5, .blk b2 [(I6 b.params), (I6 b.regs), TI])]) ∧ bF a b c x22 uM = some r) ?_ ?_)))
 rintro ⟨x22, uM⟩ w dR ⟨h, hs⟩
 refine aM (nG (aa (ah (v := (.bool (x22))) rfl) (aa (fw rfl) (nN (aI hs rfl (fun c24 hs => ?_) (fun c24 hs => ?_))))))
 refine nG (aa (ae (v := (I6 3)) rfl) (nR (ay (bR (v := (I6 3)) Tryz.results52 rfl ?_))))
 obtain rfl := fM hs
 exact ⟨h.grown, rfl⟩
 refine aH (ak (aM (nG (aa (ag jy rfl) (aa (az h 4 rfl aR rfl rfl) (aa (ag gN rfl) (aa (az h 4 rfl aR rfl rfl) (aa (ag nk rfl) (aa (az h 4 rfl aR rfl rfl) (sV (R := eY) (vs := [(I6 a.a), (I6 a.b), (I6 a.c)]) (xs := [a.a, a.b, a.c]) h 9 kI rfl rfl rfl ⟨rfl, ⟨rfl, ⟨rfl, trivial⟩⟩⟩ rfl fun w u25 h => aa (bM bZ rfl (h.eT 9 rfl)) (aa (ah (v := (I6 0)) rfl) (nN (aN ?_)))))))))))))
 replace h := h.freeze 9 rfl
 refine gD (σ := Nat × Int) (inl ([6, 12, 13] ++ rg 115 14)) (fun ⟨k26, i27⟩ => [(115, (I6 i27))]) (fun ⟨k26, i27⟩ w => SH w0 M BE w (hset [(1, .sr eY AX a.args), (2, .sr kU TI b.code), (4, .blk b1 [(I6 a.op), (I6 a.a), (I6 a.b), (I6 a.c), AX]), (5, .blk b2 [(I6 b.params), (I6 b.regs), TI]), (9, .rd eY u25 [a.a, a.b, a.c])]) ∧ i27 = (k26 : Int) ∧ dZ (dn a) (dw a uM b) i27 ([a.a, a.b, a.c].drop k26) () = some r) (fun ⟨k26, i27⟩ => [a.a, a.b, a.c].length - k26) ⟨0, 0⟩ ⟨rfl, trivial⟩ ?_ ?_
 exact ⟨h.cn _, rfl, hs⟩
 rintro ⟨k26, i27⟩ w dR ⟨h, hik, hs⟩
 refine nG ?_
 refine aa (eO rfl rfl) (nN ?_)
 refine aM (gQ rfl (fun e31 => ?_) (fun e31 => ?_))
 refine aH (ak ?_)
 obtain ⟨x28, e32a, e32b⟩ := fG (hik ▸ e31)
 rw [e32b, iQ] at hs
 generalize hnx30 : dZ (dn a) (dw a uM b) (i27 + 1) ([a.a, a.b, a.c].drop (k26 + 1)) = nx30 at hs
 have e32r := fJ ((h.kL 9 rfl)).bT hik e31
 refine aM (aN (nG (aa (ah (v := (I6 i27)) rfl) ?_)))
 obtain ⟨G9, o35, cs36, h, r37, i33⟩ := h.Cn 9 10 rfl bZ rfl (ig hik) (fI hik e32a)
 obtain rfl := r37
 refine aa (i33 _ _ _ _ _ _ _ _ _ rfl rfl) (aa (fo (k := 0) h 10 rfl aR rfl rfl) (aa (ae (v := (I6 i27)) rfl) (aa (ae (v := (I6 x28)) rfl) (nJ (aa (ah (v := (aV ((lk a.op ([(1, [114, 110, 45]), (2, [114, 114, 45]), (3, [114, 114, 114]), (4, [114, 114, 110]), (5, [114, 110, 45]), (6, [114, 114, 110]), (7, [114, 110, 45]), (8, [114, 45, 45]), (9, [114, 45, 45]), (10, [45, 45, 45]), (11, [114, 45, 45]), (12, [45, 110, 45]), (13, [114, 110, 45])] : List (Int × Str))).getD []))) rfl) (aa (ah (v := (I6 i27)) rfl) ?_))))))
 obtain ⟨x38, e39, hs⟩ := aL hs
 refine aa (Rs Tryz.underlying9 rfl rfl (aC e39).1 (aC e39).2) (aa (bu rfl rfl) (aa (ah (v := (.bool (decide (((x38.toNat : Int) : Int) = 45)))) rfl) (aF rfl rfl (fun q => ah (v := (I6 x28)) rfl) (aF rfl rfl (fun q => gM (eu q) rfl) (aa (fZ rfl rfl mY) (nN (aI hs rfl (fun c40 hs => ?_) (fun c40 hs => ?_))))))))
 refine nG (aa (ae (v := (I6 4)) rfl) (nR (aB (ay (ay (aB (ay (bR (v := (I6 4)) Tryz.results52 rfl ?_))))))))
 obtain rfl := fM hs
 exact ⟨h.grown, rfl⟩
 refine aH (ax (ak (aD (aa (dQ rfl rfl e32r) (aa (ah (v := (I6 ((i27 + 1)))) rfl) (aA (au ?_)))))))
 subst hnx30
 exact jM ⟨k26 + 1, i27 + 1⟩ ⟨h.cn _, by omega, hs⟩ (by have := oD e31; dsimp only; omega)
 rw [fH (hik ▸ e31), ll] at hs
 refine jl (bQ (bQ (fq (ak (aM (nG (aa (ag rQ rfl) (aa (az h 4 rfl qU rfl rfl) (aa (bM bZ rfl (h.gV 1 rfl)) (aa (ah (v := (I6 uM)) rfl) (aa (gM rfl rfl) (nN (aI hs rfl (fun c41 hs => ?_) (fun c41 hs => ?_))))))))))))))
 refine nG (aa (ae (v := (I6 4)) rfl) (nR (ay (bR (v := (I6 4)) Tryz.results52 rfl ?_))))
 obtain rfl := fM hs
 exact ⟨h.grown, rfl⟩
 refine aH (ak (aM (nG (aa (ag rQ rfl) (aa (az h 4 rfl qU rfl rfl) (aa (bM bZ rfl (h.gV 1 rfl)) (aa (ah (v := (I6 0)) rfl) (nN (aN (gD (σ := Nat × Int) (inl ([6, 15] ++ rg 137 15)) (fun ⟨Qw, i43⟩ => [(137, (I6 i43))]) (fun ⟨Qw, i43⟩ w => SH w0 M BE w (hset [(1, .sr eY AX a.args), (2, .sr kU TI b.code), (4, .blk b1 [(I6 a.op), (I6 a.a), (I6 a.b), (I6 a.c), AX]), (5, .blk b2 [(I6 b.params), (I6 b.regs), TI])]) ∧ i43 = (Qw : Int) ∧ each (iR a b) bP (a.args.drop Qw) () = some r) (fun ⟨Qw, i43⟩ => a.args.length - Qw) ⟨0, 0⟩ ⟨rfl, trivial⟩ ?_ ?_))))))))))
 exact ⟨h.cn _, rfl, hs⟩
 rintro ⟨Qw, i43⟩ w dR ⟨h, hik, hs⟩
 refine nG ?_
 refine aa (eO rfl rfl) (nN ?_)
 refine aM (gQ rfl (fun e47 => ?_) (fun e47 => ?_))
 refine aH (ak ?_)
 obtain ⟨zZ, e48a, e48b⟩ := fG (hik ▸ e47)
 rw [e48b, dU] at hs
 generalize hnx46 : each (iR a b) bP (a.args.drop (Qw + 1)) = nx46 at hs
 have e48r := fJ ((h.gV 1 rfl)).bT hik e47
 refine aM (aN (nG ?_))
 obtain ⟨b50, o51, cs52, h, r53, i49⟩ := h.xI 1 11 rfl bZ rfl (ig hik) (fI hik e48a)
 obtain rfl := r53
 refine aa (i49 _ _ _ _ _ _ _ _ _ rfl rfl) (aa (fo (k := 0) h 11 rfl aR rfl rfl) (aa (ae (v := (I6 zZ)) rfl) (nJ (aa (ag ni rfl) (aa (az h 4 rfl aR rfl rfl) (aa (bu rfl rfl) (aa (ah (v := (.bool (decide ((a.op : Int) = 7)))) rfl) (aF rfl rfl (fun q => ah (v := (I6 zZ)) rfl) (aF rfl rfl (fun q => ag vK rfl) (aF rfl rfl (fun q => az h 5 rfl aR (eu q) rfl) (zn rfl rfl Bd rfl (fun q => jP (eu q) (jP (eu q) rfl)) (gX _ _ h.lt zZ b.regs _ rfl) fun w k54 => ?_)))))))))))
 replace h := h.grow k54
 refine aF rfl rfl (fun q => fw (eu q)) (aa (fZ rfl rfl mY) (nN (aI hs rfl (fun c55 hs => ?_) (fun c55 hs => ?_))))
 refine nG (aa (ae (v := (I6 3)) rfl) (nR (aB (ay (ay (aB (ay (bR (v := (I6 3)) Tryz.results52 rfl ?_))))))))
 obtain rfl := fM hs
 exact ⟨h.grown, rfl⟩
 refine aH (ax (ak (aD (aa (dQ rfl rfl e48r) (aa (ah (v := (I6 ((i43 + 1)))) rfl) (aA (au ?_)))))))
 subst hnx46
 exact jM ⟨Qw + 1, i43 + 1⟩ ⟨h.cn _, by omega, hs⟩ (by have := oD e47; dsimp only; omega)
 rw [fH (hik ▸ e47), fO] at hs
 refine nE (aa (ae (v := (I6 0)) rfl) (nR (bR (v := (I6 0)) Tryz.results52 rfl ?_)))
 obtain rfl := fM hs
 exact ⟨h.grown, rfl⟩
 refine nG (aa (ag ni rfl) (aa (az h 4 rfl aR rfl rfl) (nN (aN (nG (aa (bu rfl rfl) (aa (ae (v := (.bool (decide ((a.op : Int) = 7)))) rfl) (nN (aI hs rfl (fun c56 hs => ?_) (fun c56 hs => ?_))))))))))
 refine aM (nG (aa (ag gN rfl) (aa (az h 4 rfl aR rfl rfl) (aa (ah (v := vc) rfl) (aa (bM gU rfl (h.gV 3 rfl)) (aW Bd rfl rfl (gX _ _ h.lt a.b (c.length : Int) _ rfl) ?_))))))
 rintro _ w ⟨k57, rfl⟩
 refine ⟨_, rfl, ?_⟩
 replace h := h.grow k57
 refine aa (fw rfl) (nN (aI hs rfl (fun c58 hs => ?_) (fun c58 hs => ?_)))
 refine nG (aa (ae (v := (I6 5)) rfl) (nR (ay (aB (ay (bR (v := (I6 5)) Tryz.results52 rfl ?_))))))
 obtain rfl := fM hs
 exact ⟨h.grown, rfl⟩
 refine aH (ak (aD (aa (ah (v := vc) rfl) (aa (ag gN rfl) (aa (az h 4 rfl aR rfl rfl) ?_)))))
 obtain ⟨x59, e60, hs⟩ := aL hs
 obtain ⟨b62, o63, cs64, h, r65, i61⟩ := h.xI 3 12 rfl gU rfl (aC e60).1 (aC e60).2
 obtain ⟨u66, rfl, g67⟩ := jN r65
 replace h := h.dh 13 g67.up
 refine aa (i61 _ _ _ _ _ _ _ _ _ rfl rfl) (aa (ag Av rfl) (aa (fo (k := 0) h 12 rfl aR rfl rfl) (aa (ae (v := (I6 x59.params)) rfl) (aA (ax (au ?_))))))
 exact bS ((lk a.op ([(1, [114, 110, 45]), (2, [114, 114, 45]), (3, [114, 114, 114]), (4, [114, 114, 110]), (5, [114, 110, 45]), (6, [114, 114, 110]), (7, [114, 110, 45]), (8, [114, 45, 45]), (9, [114, 45, 45]), (10, [45, 45, 45]), (11, [114, 45, 45]), (12, [45, 110, 45]), (13, [114, 110, 45])] : List (Int × Str))).isSome, x59.params) ⟨h.cn _, hs⟩
 refine nG (aa (bu rfl rfl) (aa (ae (v := (.bool (decide ((a.op : Int) = 1)))) rfl) (nN (aI hs rfl (fun QC hs => ?_) (fun QC hs => ?_)))))
 refine aD (aa (ag gN rfl) (aa (az h 4 rfl aR rfl rfl) (aW MI rfl rfl (o7 _ _ h.lt a.b _ rfl) ?_)))
 rintro _ w ⟨k69, rfl⟩
 refine ⟨_, rfl, ?_⟩
 replace h := h.grow k69
 refine aa (ae (v := (.bool ((dW a.b)))) rfl) (aA (ax (au ?_)))
 exact bS ((dW a.b), 0) ⟨h.cn _, hs⟩
 refine nG (aa (bu rfl rfl) (aa (ae (v := (.bool (decide ((a.op : Int) = 5)))) rfl) (nN (aI hs rfl (fun c70 hs => ?_) (fun c70 hs => ?_)))))
 refine aD (aa (ag gN rfl) (aa (az h 4 rfl aR rfl rfl) (aW rZ rfl rfl (eH _ _ h.lt a.b 1 4 _ rfl) ?_)))
 rintro _ w ⟨k71, rfl⟩
 refine ⟨_, rfl, ?_⟩
 replace h := h.grow k71
 refine aa (ae (v := (.bool ((aO a.b 1 4)))) rfl) (aA (ax (au ?_)))
 exact bS ((aO a.b 1 4), 0) ⟨h.cn _, hs⟩
 refine cu (σ := Bool) (inl [77, 78, 79]) (fun x72 => [(77, (.bool (x72)))]) (fun x72 w => SH w0 M BE w (hset [(1, .sr eY AX a.args), (2, .sr kU TI b.code), (4, .blk b1 [(I6 a.op), (I6 a.a), (I6 a.b), (I6 a.c), AX]), (5, .blk b2 [(I6 b.params), (I6 b.regs), TI])]) ∧ dz a b c x72 = some r) ?_ ?_
 rintro x72 w dR ⟨h, hs⟩
 refine aI hs rfl (fun c73 hs => ?_) (fun c73 hs => ?_)
 refine aD (aa (ag nk rfl) (aa (az h 4 rfl aR rfl rfl) (aW rZ rfl rfl (eH _ _ h.lt a.c 0 3 _ rfl) ?_)))
 rintro _ w ⟨k74, rfl⟩
 refine ⟨_, rfl, ?_⟩
 replace h := h.grow k74
 refine aa (ae (v := (.bool ((aO a.c 0 3)))) rfl) (aA (ax (au ?_)))
 exact bS ((aO a.c 0 3), 0) ⟨h.cn _, hs⟩
 refine nG (aa (bu rfl rfl) (aa (ae (v := (.bool (decide ((a.op : Int) = 3)))) rfl) (nN (aI hs rfl (fun c75 hs => ?_) (fun c75 hs => ?_)))))
 refine nG (aa (ae (v := (I6 1)) rfl) (nN (aD (aa (ag rQ rfl) (aa (az h 4 rfl qU rfl rfl) (aa (bM bZ rfl (h.gV 1 rfl)) (aa (bu rfl rfl) (aa (ah (v := (.bool (decide (((a.args.length : Int) : Int) = 1)))) rfl) (gT (b := decide (((a.args.length : Int) : Int) = 1)) hs (fun c76 hs => ?_) (fun c76 hs => ?_))))))))))
 refine cz rfl (cB c76) (aa (ag rQ rfl) (cz rfl (cB c76) (aa (az h 4 rfl qU rfl rfl) (cz rfl (cB c76) ?_))))
 obtain ⟨Q9, e78, hs⟩ := aL hs
 obtain ⟨b80, o81, cs82, h, r83, i79⟩ := h.xI 1 14 rfl bZ rfl (aC e78).1 (aC e78).2
 obtain rfl := r83
 refine aa (i79 _ _ _ _ _ _ _ _ _ rfl rfl) (cz rfl (cB c76) (aa (fo (k := 0) h 14 rfl aR rfl rfl) (cz rfl (cB c76) (aW rZ rfl rfl (eH _ _ h.lt Q9 1 5 _ rfl) ?_))))
 rintro _ w ⟨k84, rfl⟩
 refine ⟨_, rfl, ?_⟩
 replace h := h.grow k84
 refine aa (bY (b := true) (v := (.bool ((aO Q9 1 5)))) (cB c76) rfl) (aa (ae (v := (.bool ((aO Q9 1 5)))) rfl) (aA (ax (au ?_))))
 exact bS ((aO Q9 1 5), 1) ⟨h.cn _, hs⟩
 refine mO rfl (cB c76) rfl (mO rfl (cB c76) rfl (mO rfl (cB c76) rfl (mO rfl (cB c76) rfl (mO rfl (cB c76) rfl (aa (bY (b := false) (v := (.bool (false))) (cB c76) rfl) (aa (ae (v := (.bool (false))) rfl) (aA (ax (au ?_)))))))))
 exact bS (false, 1) ⟨h.cn _, hs⟩
 refine cu (σ := Bool) (inl [96, 97, 98]) (fun x85 => [(96, (.bool (x85)))]) (fun x85 w => SH w0 M BE w (hset [(1, .sr eY AX a.args), (2, .sr kU TI b.code), (4, .blk b1 [(I6 a.op), (I6 a.a), (I6 a.b), (I6 a.c), AX]), (5, .blk b2 [(I6 b.params), (I6 b.regs), TI])]) ∧ dx a b c x85 = some r) ?_ ?_
 rintro x85 w dR ⟨h, hs⟩
 refine aI hs rfl (fun c86 hs => ?_) (fun c86 hs => ?_)
 refine aD (aa (ag gN rfl) (aa (az h 4 rfl aR rfl rfl) (aa (ag nP rfl) (aa (az h 5 rfl xh rfl rfl) (aa (bM iD rfl (h.gV 2 rfl)) (aW Bd rfl rfl (gX _ _ h.lt a.b (b.code.length : Int) _ rfl) ?_))))))
 rintro _ w ⟨k87, rfl⟩
 refine ⟨_, rfl, ?_⟩
 replace h := h.grow k87
 refine aa (ae (v := (.bool ((aJ a.b (b.code.length : Int))))) rfl) (aA (ax (au ?_)))
 exact bS ((aJ a.b (b.code.length : Int)), 0) ⟨h.cn _, hs⟩
 refine aH (ax (au ?_))
 exact bS ((lk a.op ([(1, [114, 110, 45]), (2, [114, 114, 45]), (3, [114, 114, 114]), (4, [114, 114, 110]), (5, [114, 110, 45]), (6, [114, 114, 110]), (7, [114, 110, 45]), (8, [114, 45, 45]), (9, [114, 45, 45]), (10, [45, 45, 45]), (11, [114, 45, 45]), (12, [45, 110, 45]), (13, [114, 110, 45])] : List (Int × Str))).isSome, 0) ⟨h.cn _, hs⟩
 refine nG (aa (bu rfl rfl) (aa (ae (v := (.bool (decide ((a.op : Int) = 12)))) rfl) (nN (aI hs rfl (fun c88 hs => ?_) (fun c88 hs => ?_)))))
 refine aH (au ?_)
 exact bS (decide ((a.op : Int) = 12)) ⟨h.cn _, hs⟩
 refine aD (aa (bu rfl rfl) (aa (ae (v := (.bool (decide ((a.op : Int) = 13)))) rfl) (aA (au ?_))))
 exact bS (decide ((a.op : Int) = 13)) ⟨h.cn _, hs⟩
 refine nG (aa (bu rfl rfl) (aa (ae (v := (.bool (decide ((a.op : Int) = 4)))) rfl) (nN (aI hs rfl (fun c89 hs => ?_) (fun c89 hs => ?_)))))
 refine aH (au ?_)
 exact bS (decide ((a.op : Int) = 4)) ⟨h.cn _, hs⟩
 refine aD (aa (bu rfl rfl) (aa (ae (v := (.bool (decide ((a.op : Int) = 6)))) rfl) (aA (au ?_))))
 exact bS (decide ((a.op : Int) = 6)) ⟨h.cn _, hs⟩
def fB (x25 : bX) (a : List bX) (x40 : Ins) (s : Unit) (nx42 : Unit → Option Int) : Option Int :=
  (dO x40 x25 a).bind fun AR => bif decide ((AR : Int) ≠ 0) then some AR else nx42 ()
def qK (x25 : bX) (X5 : Unit → Option Int) (s : Unit) : Option Int :=
  iK (kJ ((x25.code.length : Int) - 1)) ((idx x25.code ((x25.code.length : Int) - 1)).bind fun Ef => bif (decide ((Ef.op : Int) ≠ 8) && decide ((Ef.op : Int) ≠ 12)) then some 4 else X5 ())
def fC (a : List bX) (x25 : bX) (s : Unit) (X5 : Unit → Option Int) : Option Int :=
  each (fB x25 a) (qK x25 X5) x25.code ()
def iM (s : Unit) : Option Int :=
  some 0
def gu (i4 : Int) (x5 : bX) (s : Unit) (nx7 : Unit → Option Int) : Option Int :=
  bif (((!(aO x5.params 0 3)) || (!(aO x5.regs (max 1 x5.params) 40))) || (decide ((i4 : Int) = 0) && decide ((x5.params : Int) ≠ 0))) then some 3 else bif (!(aO (x5.code.length : Int) 1 2000)) then some 2 else nx7 ()
def jw (a : List bX) (s : Unit) : Option Int :=
  each (fC a) iM a ()
def mF (a : List bX) : Option Int :=
  bif (!(aO (a.length : Int) 1 4)) then some 2 else dZ gu (jw a) 0 a ()
theorem DC (w0 : World) (M : BS) (hM : ∀ b, M b → b < w0.heap.size) (va : Value) (a : List bX) (ha : gB jE w0 BE M va a) (r : Int) (hs : mF a = some r) :
    Calls Tryz.prog 21 #[va] w0 (fun e w' => Grow w0 w' ∧ e = .returned (.int .i64 r)) := by
 refine aQ (args := [va]) Tryz.func21 rfl Tryz.ntmps21 (bD rfl) ?_
 have h := SH.init hM
 replace h := h.fE 1 ha bA
 have uU := ha.bT
 refine nG (aa (ae (v := (I6 0)) rfl) (nK (aa (ah (v := va) rfl) (aa (bM gU rfl (h.gV 1 rfl)) (aW rZ rfl rfl (eH _ _ h.lt (a.length : Int) 1 4 _ rfl) ?_)))))
 rintro _ w ⟨k1, rfl⟩
 refine ⟨_, rfl, ?_⟩
 replace h := h.grow k1
 refine aa (fw rfl) (nN (aI hs rfl (fun c2 hs => ?_) (fun c2 hs => ?_)))
 refine nG (aa (ae (v := (I6 2)) rfl) (nR (ay (bR (v := (I6 2)) Tryz.results21 rfl ?_))))
 obtain rfl := fM hs
 exact ⟨h.grown, rfl⟩
 refine aH (ak (aM (nG (aa (ah (v := va) rfl) (aa (bM gU rfl (h.gV 1 rfl)) (aa (ah (v := (I6 0)) rfl) (nN (aN (gD (σ := Nat × Int) (inl ([2, 3, 4] ++ rg 17 33)) (fun ⟨k3, i4⟩ => [(17, (I6 i4))]) (fun ⟨k3, i4⟩ w => SH w0 M BE w (hset [(1, .sr jE va a)]) ∧ i4 = (k3 : Int) ∧ dZ gu (jw a) i4 (a.drop k3) () = some r) (fun ⟨k3, i4⟩ => a.length - k3) ⟨0, 0⟩ ⟨rfl, trivial⟩ ?_ ?_)))))))))
 exact ⟨h.cn _, rfl, hs⟩
 rintro ⟨k3, i4⟩ w dR ⟨h, hik, hs⟩
 refine nG ?_
 refine aa (eO rfl rfl) (nN ?_)
 refine aM (gQ rfl (fun e8 => ?_) (fun e8 => ?_))
 refine aH (ak ?_)
 obtain ⟨x5, e9a, e9b⟩ := fG (hik ▸ e8)
 rw [e9b, iQ] at hs
 generalize hnx7 : dZ gu (jw a) (i4 + 1) (a.drop (k3 + 1)) = nx7 at hs
 have e9r := fJ ((h.gV 1 rfl)).bT hik e8
 refine aM (aN (nG (aa (ah (v := (I6 i4)) rfl) ?_)))
 obtain ⟨b11, o12, cs13, h, r14, i10⟩ := h.xI 1 2 rfl gU rfl (ig hik) (fI hik e9a)
 obtain ⟨zA, rfl, g16⟩ := jN r14
 replace h := h.dh 3 g16.up
 refine aa (i10 _ _ _ _ _ _ _ _ _ rfl rfl) (aa (jc (k := 0) (vs := [(I6 x5.params), (I6 x5.regs), zA]) h 2 rfl tC rfl rfl rfl (bD rfl)) (bI h 4 tC fun w b17 h => aa (ae (v := (I6 i4)) rfl) (dK (vs := [(I6 x5.params), (I6 x5.regs), zA]) h 4 [(I6 x5.params), (I6 x5.regs), zA] rfl tC rfl rfl rfl rfl rfl (ai rfl (ai rfl (ai (h.iN 3 rfl).one aS))) fun w h => nK (aa (ag Av rfl) (aa (az h 4 rfl aR rfl rfl) (aW rZ rfl rfl (eH _ _ h.lt x5.params 0 3 _ rfl) ?_))))))
 rintro _ w ⟨k18, rfl⟩
 refine ⟨_, rfl, ?_⟩
 replace h := h.grow k18
 refine aa (fw rfl) (aa (ah (v := (.bool ((!(aO x5.params 0 3))))) rfl) (aF rfl rfl (fun q => ag vK rfl) (aF rfl rfl (fun q => az h 4 rfl aR (eu q) rfl) (aF rfl rfl (fun q => ag Av rfl) (aF rfl rfl (fun q => az h 4 rfl aR (eu q) rfl) (aF rfl rfl (fun q => r_max rfl (eu q)) (zn rfl rfl rZ rfl (fun q => jP (eu q) (jP (eu q) (jP rfl rfl))) (eH _ _ h.lt x5.regs (max 1 x5.params) 40 _ rfl) fun w k19 => ?_)))))))
 replace h := h.grow k19
 refine aF rfl rfl (fun q => fw (eu q)) (aa (jD rfl rfl mY) (aa (ah (v := (.bool (((!(aO x5.params 0 3)) || (!(aO x5.regs (max 1 x5.params) 40)))))) rfl) (aF rfl rfl (fun q => ah (v := (I6 i4)) rfl) (aF rfl rfl (fun q => bu (eu q) rfl) (aF rfl rfl (fun q => ah (v := (.bool (decide ((i4 : Int) = 0)))) (eu q)) (lS (((!(aO x5.params 0 3)) || (!(aO x5.regs (max 1 x5.params) 40))) == false) rfl rfl (fun q => ag Av rfl) (lS (((!(aO x5.params 0 3)) || (!(aO x5.regs (max 1 x5.params) 40))) == false) rfl rfl (fun q => az h 4 rfl aR (eu q) rfl) (lS (((!(aO x5.params 0 3)) || (!(aO x5.regs (max 1 x5.params) 40))) == false) rfl rfl (fun q => gM (eu q) rfl) (aF rfl rfl (fun q => fZ (eu q) (TP q) mY) (aa (jD rfl rfl mY) (nN (aI hs rfl (fun c20 hs => ?_) (fun c20 hs => ?_)))))))))))))
 refine nG (aa (ae (v := (I6 3)) rfl) (nR (ay (aB (ay (ay (aB (ay (bR (v := (I6 3)) Tryz.results21 rfl ?_)))))))))
 obtain rfl := fM hs
 exact ⟨h.grown, rfl⟩
 refine nS (aa (ag nP rfl) (aa (az h 4 rfl xh rfl rfl) (aa (bM iD rfl (h.kL 3 rfl)) (aW rZ rfl rfl (eH _ _ h.lt (x5.code.length : Int) 1 2000 _ rfl) ?_))))
 rintro _ w ⟨k21, rfl⟩
 refine ⟨_, rfl, ?_⟩
 replace h := h.grow k21
 refine aa (fw rfl) (nN (aI hs rfl (fun c22 hs => ?_) (fun c22 hs => ?_)))
 refine nG (aa (ae (v := (I6 2)) rfl) (nR (aB (ay (ay (aB (ay (bR (v := (I6 2)) Tryz.results21 rfl ?_))))))))
 obtain rfl := fM hs
 exact ⟨h.grown, rfl⟩
 refine aH (ax (ak (aD (aa (dQ rfl rfl e9r) (aa (ah (v := (I6 ((i4 + 1)))) rfl) (aA (au ?_)))))))
 subst hnx7
 exact jM ⟨k3 + 1, i4 + 1⟩ ⟨h.cn _, by omega, hs⟩ (by have := oD e8; dsimp only; omega)
 rw [fH (hik ▸ e8), ll] at hs
 refine jl (bQ (bQ (fq (ak (aM (nG (aa (ah (v := va) rfl) (aa (bM gU rfl (h.gV 1 rfl)) (aa (ah (v := (I6 0)) rfl) (nN (aN (gD (σ := Nat × Int) (inl ([2, 6, 8, 9, 10] ++ rg 52 35)) (fun ⟨k23, i24⟩ => [(52, (I6 i24))]) (fun ⟨k23, i24⟩ w => SH w0 M BE w (hset [(1, .sr jE va a)]) ∧ i24 = (k23 : Int) ∧ each (fC a) iM (a.drop k23) () = some r) (fun ⟨k23, i24⟩ => a.length - k23) ⟨0, 0⟩ ⟨rfl, trivial⟩ ?_ ?_))))))))))))
 exact ⟨h.cn _, rfl, hs⟩
 rintro ⟨k23, i24⟩ w dR ⟨h, hik, hs⟩
 refine nG ?_
 refine aa (eO rfl rfl) (nN ?_)
 refine aM (gQ rfl (fun e28 => ?_) (fun e28 => ?_))
 refine aH (ak ?_)
 obtain ⟨x25, e29a, e29b⟩ := fG (hik ▸ e28)
 rw [e29b, dU] at hs
 generalize hnx27 : each (fC a) iM (a.drop (k23 + 1)) = X5 at hs
 have e29r := fJ ((h.gV 1 rfl)).bT hik e28
 refine aM (aN (nG ?_))
 obtain ⟨b31, o32, cs33, h, r34, i30⟩ := h.xI 1 5 rfl gU rfl (ig hik) (fI hik e29a)
 obtain ⟨u35, rfl, g36⟩ := jN r34
 replace h := h.dh 6 g36.up
 refine aa (i30 _ _ _ _ _ _ _ _ _ rfl rfl) (aa (jc (k := 0) (vs := [(I6 x25.params), (I6 x25.regs), u35]) h 5 rfl tC rfl rfl rfl (bD rfl)) (bI h 7 tC fun w b37 h => dK (vs := [(I6 x25.params), (I6 x25.regs), u35]) h 7 [(I6 x25.params), (I6 x25.regs), u35] rfl tC rfl rfl rfl rfl rfl (ai rfl (ai rfl (ai (h.iN 6 rfl).one aS))) fun w h => nK (aa (ag nP rfl) (aa (az h 7 rfl xh rfl rfl) (aa (bM iD rfl (h.kL 6 rfl)) (aa (ah (v := (I6 0)) rfl) (nN (aN (gD (σ := Nat × Int) (inl ([2, 8, 9] ++ rg 59 12)) (fun ⟨V6, i39⟩ => [(59, (I6 i39))]) (fun ⟨V6, i39⟩ w => SH w0 M BE w (hset [(1, .sr jE va a), (6, .rd kU u35 x25.code), (7, .blk b37 [(I6 x25.params), (I6 x25.regs), u35])]) ∧ i39 = (V6 : Int) ∧ each (fB x25 a) (qK x25 X5) (x25.code.drop V6) () = some r) (fun ⟨V6, i39⟩ => x25.code.length - V6) ⟨0, 0⟩ ⟨rfl, trivial⟩ ?_ ?_)))))))))
 exact ⟨h.cn _, rfl, hs⟩
 rintro ⟨V6, i39⟩ w dR ⟨h, hik, hs⟩
 refine nG ?_
 refine aa (eO rfl rfl) (nN ?_)
 refine aM (gQ rfl (fun e43 => ?_) (fun e43 => ?_))
 refine aH (ak ?_)
 obtain ⟨x40, e44a, e44b⟩ := fG (hik ▸ e43)
 rw [e44b, dU] at hs
 generalize hnx42 : each (fB x25 a) (qK x25 X5) (x25.code.drop (V6 + 1)) = nx42 at hs
 have e44r := fJ ((h.kL 6 rfl)).bT hik e43
 refine aM (aN (nG ?_))
 obtain ⟨b46, o47, cs48, h, r49, i45⟩ := h.Cn 6 8 rfl iD rfl (ig hik) (fI hik e44a)
 obtain ⟨u50, rfl, g51⟩ := xe r49
 replace h := h.dh 9 g51.up
 refine aa (i45 _ _ _ _ _ _ _ _ _ rfl rfl) (aa (jc (k := 0) (vs := [(I6 x40.op), (I6 x40.a), (I6 x40.b), (I6 x40.c), u50]) h 8 rfl oF rfl rfl rfl (bD rfl)) (bI h 10 oF fun w b52 h => dK (vs := [(I6 x40.op), (I6 x40.a), (I6 x40.b), (I6 x40.c), u50]) h 10 [(I6 x40.op), (I6 x40.a), (I6 x40.b), (I6 x40.c), u50] rfl oF rfl rfl rfl rfl rfl (ai rfl (ai rfl (ai rfl (ai rfl (ai (h.iN 9 rfl).one aS))))) fun w h => nJ (aa (bU (vs := [(I6 x40.op), (I6 x40.a), (I6 x40.b), (I6 x40.c), u50]) h 10 rfl oF rfl rfl rfl) (aa (bU (vs := [(I6 x25.params), (I6 x25.regs), u35]) h 7 rfl tC rfl rfl rfl) (aa (ah (v := va) rfl) ?_)))))
 obtain ⟨AR, e54, hs⟩ := aL hs
 refine aW fnOk52 rfl rfl (Ev _ _ h.lt x40 u50 (h.kL 9 rfl) x25 u35 (h.kL 6 rfl) va a (h.gV 1 rfl) _ e54) ?_
 rintro _ w ⟨k55, rfl⟩
 refine ⟨_, rfl, ?_⟩
 replace h := h.grow k55
 refine aa (ae (v := (I6 AR)) rfl) (nJ (aa (ah (v := (I6 AR)) rfl) (aa (gM rfl rfl) (nN (aI hs rfl (fun c56 hs => ?_) (fun c56 hs => ?_))))))
 refine nG (aa (ah (v := (I6 AR)) rfl) (aa (ae (v := (I6 AR)) rfl) (nR (aB (ay (ay (aB (ay (aB (ay (ay (aB (ay (bR (v := (I6 AR)) Tryz.results21 rfl ?_))))))))))))))
 obtain rfl := fM hs
 exact ⟨h.grown, rfl⟩
 refine aH (ax (ak (aD (aa (dQ rfl rfl e44r) (aa (ah (v := (I6 ((i39 + 1)))) rfl) (aA (au ?_)))))))
 subst hnx42
 exact jM ⟨V6 + 1, i39 + 1⟩ ⟨h.cn _, by omega, hs⟩ (by have := oD e43; dsimp only; omega)
 rw [fH (hik ▸ e43), fO] at hs
 refine nE (aa (ag nP rfl) (aa (az h 7 rfl xh rfl rfl) (aa (ag nP rfl) (aa (az h 7 rfl xh rfl rfl) (aa (bM iD rfl (h.kL 6 rfl)) ?_)))))
 obtain ⟨a57, hs⟩ := bG hs
 refine aa (oh rfl rfl a57) ?_
 obtain ⟨Ef, e59, hs⟩ := aL hs
 obtain ⟨b61, o62, cs63, h, r64, i60⟩ := h.Cn 6 11 rfl iD rfl (aC e59).1 (aC e59).2
 obtain ⟨u65, rfl, g66⟩ := xe r64
 replace h := h.dh 12 g66.up
 refine aa (i60 _ _ _ _ _ _ _ _ _ rfl rfl) (aa (ag ni rfl) (aa (fo (k := 0) h 11 rfl aR rfl rfl) (aa (ae (v := (I6 Ef.op)) rfl) (nJ (aa (ah (v := (I6 Ef.op)) rfl) (aa (gM rfl rfl) (aa (ah (v := (.bool (decide ((Ef.op : Int) ≠ 8)))) rfl) (aF rfl rfl (fun q => ah (v := (I6 Ef.op)) rfl) (aF rfl rfl (fun q => gM (eu q) rfl) (aa (fZ rfl rfl mY) (nN (aI hs rfl (fun c67 hs => ?_) (fun c67 hs => ?_)))))))))))))
 refine nG (aa (ae (v := (I6 4)) rfl) (nR (aB (ay (ay (aB (ay (bR (v := (I6 4)) Tryz.results21 rfl ?_))))))))
 obtain rfl := fM hs
 exact ⟨h.grown, rfl⟩
 refine aH (ax (ak (aD (aa (dQ rfl rfl e29r) (aa (ah (v := (I6 ((i24 + 1)))) rfl) (aA (au ?_)))))))
 subst hnx27
 exact jM ⟨k23 + 1, i24 + 1⟩ ⟨h.cn _, by omega, hs⟩ (by have := oD e28; dsimp only; omega)
 rw [fH (hik ▸ e28), fO] at hs
 refine nE (aa (ae (v := (I6 0)) rfl) (nR (bR (v := (I6 0)) Tryz.results21 rfl ?_)))
 obtain rfl := fM hs
 exact ⟨h.grown, rfl⟩
def nu (a : List (List Val)) (b : List (List Val)) (i3 : Int) (s : Unit) (G5 : Unit → Option Bool) : Option Bool :=
  (idx a i3).bind fun x9 => (idx b i3).bind fun AU => (ky x9 AU).bind fun y27 => bif (!y27) then some false else G5 ()
def rG (s : Unit) : Option Bool :=
  some true
def qo (a : List (List Val)) (b : List (List Val)) : Option Bool :=
  bif decide (((a.length : Int) : Int) ≠ (b.length : Int)) then some false else upto (nu a b) rG 0 ((a.length : Int)).toNat ()
theorem DD (w0 : World) (M : BS) (hM : ∀ b, M b → b < w0.heap.size) (va : Value) (a : List (List Val)) (ha : gB (l9 bz) w0 BE M va a) (vb : Value) (b : List (List Val)) (hb : gB (l9 bz) w0 BE M vb b) (r : Bool) (hs : qo a b = some r) :
    Calls Tryz.prog 58 #[va, vb] w0 (fun e w' => Grow w0 w' ∧ e = .returned (.bool r)) := by
 refine aQ (args := [va, vb]) Tryz.func58 rfl Tryz.ntmps58 (bD rfl) ?_
 have h := SH.init hM
 replace h := h.fE 1 ha bA
 replace h := h.fE 2 hb (bN bA)
 have uU := ha.bT
 have ML := hb.bT
 refine nG (aa (ae (v := (.bool (false))) rfl) (nK (aa (ah (v := va) rfl) (aa (bM dV rfl (h.gV 1 rfl)) (aa (ah (v := vb) rfl) (aa (bM dV rfl (h.gV 2 rfl)) (aa (gM rfl rfl) (nN (aI hs rfl (fun c1 hs => ?_) (fun c1 hs => ?_))))))))))
 refine nG (aa (ae (v := (.bool (false))) rfl) (nR (ay (bR (v := (.bool (false))) Tryz.results58 rfl ?_))))
 obtain rfl := fM hs
 exact ⟨h.grown, rfl⟩
 refine aH (ak (aM (nG (aa (ah (v := va) rfl) (aa (bM dV rfl (h.gV 1 rfl)) (aa (ah (v := (I6 0)) rfl) (nN (aN ?_))))))))
 have hli3 := (h.gV 1 rfl).bT
 refine gD (σ := Nat × Int) (inl ([4, 5] ++ rg 13 14)) (fun ⟨k2, i3⟩ => [(13, (I6 i3))]) (fun ⟨k2, i3⟩ w => SH w0 M BE w (hset [(1, .sr (l9 bz) va a), (2, .sr (l9 bz) vb b)]) ∧ i3 = (k2 : Int) ∧ upto (nu a b) rG i3 (((a.length : Int)).toNat - k2) () = some r) (fun ⟨k2, i3⟩ => ((a.length : Int)).toNat - k2) ⟨0, 0⟩ ⟨rfl, trivial⟩ ?_ ?_
 exact ⟨h.cn _, rfl, hs⟩
 rintro ⟨k2, i3⟩ w dR ⟨h, hik, hs⟩
 refine nG ?_
 refine aa (eO rfl rfl) (nN ?_)
 refine aM (gQ rfl (fun e7 => ?_) (fun e7 => ?_))
 refine aH (ak ?_)
 rw [sW (by have := oD e7; omega)] at hs
 generalize G6 : upto (nu a b) rG (i3 + 1) (((a.length : Int)).toNat - (k2 + 1)) = G5 at hs
 have Ug : kJ (i3 + 1) := (by have := oD e7; have := hli3; exact kJ.mk (by omega) (by omega))
 refine aM (aN (nG (aa (ah (v := (I6 i3)) rfl) (aa (ae (v := (I6 i3)) rfl) (nN (aM (mZ 8 mixed (by kernel_rfl) h fun w h => aG (ah (v := va) rfl) (aG (ah (v := (I6 i3)) rfl) ?_))))))))
 obtain ⟨x9, e10, hs⟩ := aL hs
 obtain ⟨b12, o13, cs14, h, r15, i11⟩ := h.xI 1 3 rfl dV rfl (aC e10).1 (aC e10).2
 obtain ⟨u16, rfl, g17⟩ := r15
 replace h := h.dh 4 g17.up
 refine aG (i11 _ _ _ _ _ _ _ _ _ rfl rfl) (aG (fo (k := 0) h 3 rfl jH rfl rfl) (aG (ah (v := vb) rfl) (aG (ah (v := (I6 i3)) rfl) ?_)))
 obtain ⟨AU, e19, hs⟩ := aL hs
 obtain ⟨IE, o22, cs23, h, r24, i20⟩ := h.xI 2 5 rfl dV rfl (aC e19).1 (aC e19).2
 obtain ⟨u25, rfl, g26⟩ := r24
 replace h := h.dh 6 g26.up
 refine aG (i20 _ _ _ _ _ _ _ _ _ rfl rfl) (aG (fo (k := 0) h 5 rfl jH rfl rfl) (wz ?_))
 obtain ⟨y27, e28, hs⟩ := aL hs
 refine aW Qq rfl rfl (rq _ _ h.lt u16 x9 (h.kL 4 rfl) u25 AU (h.kL 6 rfl) _ e28) ?_
 rintro _ w ⟨k29, rfl⟩
 refine ⟨_, rfl, ?_⟩
 replace h := h.grow k29
 refine aa (fw rfl) (nN (aI hs rfl (fun c30 hs => ?_) (fun c30 hs => ?_)))
 refine nG (aa (ae (v := (.bool (false))) rfl) (nR (aB (ay (ay (aB (ay (bR (v := (.bool (false))) Tryz.results58 rfl ?_))))))))
 obtain rfl := fM hs
 exact ⟨h.grown, rfl⟩
 refine aH (ax (ak (aD (aa (dQ rfl rfl Ug) (aa (ah (v := (I6 ((i3 + 1)))) rfl) (aA (au ?_)))))))
 subst G6
 exact jM ⟨k2 + 1, i3 + 1⟩ ⟨h.cn _, by omega, hs⟩ (by have := oD e7; dsimp only; omega)
 rw [sZ (by have := of_decide_eq_false e7; omega)] at hs
 refine nE (aa (ae (v := (.bool (true))) rfl) (nR (bR (v := (.bool (true))) Tryz.results58 rfl ?_)))
 obtain rfl := fM hs
 exact ⟨h.grown, rfl⟩
def qL (p8 : Unit → Option Bool) (x34 : Bool) : Option Bool :=
  bif x34 then some false else p8 ()
def qM (b : LX.State) (i10 : Int) (fT : LX.Frame) (s : Unit) (p8 : Unit → Option Bool) : Option Bool :=
  (idx b.frames i10).bind fun x24 => bif ((decide ((fT.proc : Int) = x24.proc) && decide ((fT.at_ : Int) = x24.at_)) && decide ((fT.kD : Int) = x24.kD)) then (ky fT.regs x24.regs).bind fun y39 => qL p8 (!y39) else qL p8 true
def qN (s : Unit) : Option Bool :=
  some true
def eQ (a : LX.State) (b : LX.State) : Option Bool :=
  bif (decide ((a.status : Int) = b.status) && decide ((a.aK : Int) = b.aK)) then (qo a.cells b.cells).bind fun y4 => bif y4 then bif decide (((a.frames.length : Int) : Int) ≠ (b.frames.length : Int)) then some false else dZ (qM b) qN 0 a.frames () else some false else some false
theorem gq (w0 : World) (M : BS) (hM : ∀ b, M b → b < w0.heap.size) (a : LX.State) (vP wF : Value) (ha0 : gB dL w0 BE M vP a.frames) (ha1 : gB (l9 bz) w0 BE M wF a.cells) (b : LX.State) (vb0 vb1 : Value) (hb0 : gB dL w0 BE M vb0 b.frames) (hb1 : gB (l9 bz) w0 BE M vb1 b.cells) (r : Bool) (hs : eQ a b = some r) :
    Calls Tryz.prog 24 #[(.agg #[vP, wF, (I6 a.status), (I6 a.aK)]), (.agg #[vb0, vb1, (I6 b.status), (I6 b.aK)])] w0 (fun e w' => Grow w0 w' ∧ e = .returned (.bool r)) := by
 refine aQ (args := [(.agg #[vP, wF, (I6 a.status), (I6 a.aK)]), (.agg #[vb0, vb1, (I6 b.status), (I6 b.aK)])]) Tryz.func24 rfl Tryz.ntmps24 (bD rfl) ?_
 have h := SH.init hM
 replace h := h.fE 1 ha0 bA
 replace h := h.fE 2 ha1 (bN bA)
 replace h := h.fE 3 hb0 (bN (bN bA))
 replace h := h.fE 4 hb1 (bN (bN (bN bA)))
 refine nG (kM (cs := [vP, wF, (I6 a.status), (I6 a.aK)]) h 5 rfl rfl fun w b1 h => kM (cs := [vb0, vb1, (I6 b.status), (I6 b.aK)]) h 6 rfl rfl fun w b2 h => aa (ae (v := (.bool (false))) rfl) (nJ (aa (ag kN rfl) (aa (az h 5 rfl aR rfl rfl) (aa (ag kN rfl) (aa (az h 6 rfl aR rfl rfl) (aa (bu rfl rfl) (aa (ah (v := (.bool (decide ((a.status : Int) = b.status)))) rfl) (aF rfl rfl (fun q => ag vJ rfl) (aF rfl rfl (fun q => az h 5 rfl aR (eu q) rfl) (aF rfl rfl (fun q => ag vJ rfl) (aF rfl rfl (fun q => az h 6 rfl aR (eu q) rfl) (aF rfl rfl (fun q => bu (eu q) (eu q)) (aa (fZ rfl rfl mY) (aa (ah (v := (.bool ((decide ((a.status : Int) = b.status) && decide ((a.aK : Int) = b.aK))))) rfl) (gT (b := (decide ((a.status : Int) = b.status) && decide ((a.aK : Int) = b.aK))) hs (fun c3 hs => ?_) (fun c3 hs => ?_)))))))))))))))))
 refine cz rfl (cB c3) (aa (ag gJ rfl) (cz rfl (cB c3) (aa (az h 5 rfl jQ rfl rfl) (cz rfl (cB c3) (aa (ag gJ rfl) (cz rfl (cB c3) (aa (az h 6 rfl jQ rfl rfl) (cz rfl (cB c3) ?_))))))))
 obtain ⟨y4, e5, hs⟩ := aL hs
 refine aW fnOk58 rfl rfl (DD _ _ h.lt wF a.cells (h.gV 2 rfl) vb1 b.cells (h.gV 4 rfl) _ e5) ?_
 rintro _ w ⟨k6, rfl⟩
 refine ⟨_, rfl, ?_⟩
 replace h := h.grow k6
 refine aa (bY (b := true) (v := (.bool (y4))) (cB c3) rfl) (aa (ah (v := (.bool (y4))) rfl) (gT (b := y4) hs (fun c7 hs => ?_) (fun c7 hs => ?_)))
 refine cz rfl (cB c7) (aa (ag dP rfl) (cz rfl (cB c7) (aa (az h 5 rfl gL rfl rfl) (cz rfl (cB c7) (aa (ag dP rfl) (cz rfl (cB c7) (aa (az h 6 rfl gL rfl rfl) (cz rfl (cB c7) (jY (args := [vP, vb0, (.func (.func 59) #[] #[])]) ZN rfl rfl (aQ (args := [vP, vb0, (.func (.func 59) #[] #[])]) Tryz.func45 rfl Tryz.ntmps45 (bD rfl) (nG (aa (ae (v := (.bool (false))) rfl) (nK (aa (ah (v := vP) rfl) (aa (bM bV rfl (h.gV 1 rfl)) (aa (ah (v := vb0) rfl) (aa (bM bV rfl (h.gV 3 rfl)) (aa (gM rfl rfl) ?_))))))))))))))))))
 refine nN (aI hs rfl (fun c8 hs => ?_) (fun c8 hs => ?_))
 refine nG (aa (ae (v := (.bool (false))) rfl) (nR (ay (bR (v := (.bool (false))) Tryz.results45 rfl (⟨_, rfl, ?_⟩)))))
 refine aa (bY (b := true) (v := (.bool (false))) (cB c7) rfl) (aa (ae (v := (.bool (false))) rfl) (nR (bR (v := (.bool (false))) Tryz.results24 rfl ?_)))
 obtain rfl := fM hs
 exact ⟨h.grown, rfl⟩
 refine aH (ak (aM (nG (aa (ah (v := vP) rfl) (aa (bM bV rfl (h.gV 1 rfl)) (aa (ah (v := (I6 0)) rfl) (nN (aN (gD (σ := Nat × Int) (inl ([6, 7, 8, 9] ++ rg 17 15)) (fun ⟨k9, i10⟩ => [(17, (I6 i10))]) (fun ⟨k9, i10⟩ w => SH w0 M BE w (hset [(1, .sr dL vP a.frames), (3, .sr dL vb0 b.frames)]) ∧ i10 = (k9 : Int) ∧ dZ (qM b) qN i10 (a.frames.drop k9) () = some r) (fun ⟨k9, i10⟩ => a.frames.length - k9) ⟨0, 0⟩ ⟨rfl, trivial⟩ ?_ ?_)))))))))
 exact ⟨h.cn _, rfl, hs⟩
 rintro ⟨k9, i10⟩ w dR ⟨h, hik, hs⟩
 refine nG ?_
 refine aa (eO rfl rfl) (nN ?_)
 refine aM (gQ rfl (fun e14 => ?_) (fun e14 => ?_))
 refine aH (ak ?_)
 obtain ⟨fT, Qx, Qy⟩ := fG (hik ▸ e14)
 rw [Qy, iQ] at hs
 generalize I5 : dZ (qM b) qN (i10 + 1) (a.frames.drop (k9 + 1)) = p8 at hs
 have Qz := fJ ((h.gV 1 rfl)).bT hik e14
 refine aM (aN (nG (aa (ah (v := (I6 i10)) rfl) ?_)))
 obtain ⟨b17, o18, cs19, h, Xd, i16⟩ := h.xI 1 7 rfl bV rfl (ig hik) (fI hik Qx)
 obtain ⟨u21, rfl, g22⟩ := oQ Xd
 replace h := h.dh 8 g22.up
 refine aa (i16 _ _ _ _ _ _ _ _ _ rfl rfl) (aa (jc (k := 0) (vs := [(I6 fT.proc), (I6 fT.at_), u21, (I6 fT.kD)]) h 7 rfl gz rfl rfl rfl (bD rfl)) (bI h 9 gz fun w Gd h => aa (ae (v := (I6 i10)) rfl) (dK (vs := [(I6 fT.proc), (I6 fT.at_), u21, (I6 fT.kD)]) h 9 [(I6 fT.proc), (I6 fT.at_), u21, (I6 fT.kD)] rfl gz rfl rfl rfl rfl rfl (ai rfl (ai rfl (ai (h.iN 8 rfl).one (ai rfl aS)))) fun w h => nJ (aa (ah (v := vb0) rfl) (aa (ah (v := (I6 i10)) rfl) ?_)))))
 obtain ⟨x24, e25, hs⟩ := aL hs
 obtain ⟨b27, o28, cs29, h, r30, i26⟩ := h.xI 3 10 rfl bV rfl (aC e25).1 (aC e25).2
 obtain ⟨u31, rfl, g32⟩ := oQ r30
 replace h := h.dh 11 g32.up
 refine aa (i26 _ _ _ _ _ _ _ _ _ rfl rfl) (aa (jc (k := 0) (vs := [(I6 x24.proc), (I6 x24.at_), u31, (I6 x24.kD)]) h 10 rfl gz rfl rfl rfl (bD rfl)) (bI h 12 gz fun w b33 h => dK (vs := [(I6 x24.proc), (I6 x24.at_), u31, (I6 x24.kD)]) h 12 [(I6 x24.proc), (I6 x24.at_), u31, (I6 x24.kD)] rfl gz rfl rfl rfl rfl rfl (ai rfl (ai rfl (ai (h.iN 11 rfl).one (ai rfl aS)))) fun w h => nN (cu (σ := Bool) (inl [26, 27, 28, 29, 30]) (fun x34 => [(30, (.bool (x34)))]) (fun x34 w => SH w0 M BE w (hset [(1, .sr dL vP a.frames), (3, .sr dL vb0 b.frames)]) ∧ qL p8 x34 = some r) ?_ ?_)))
 rintro x34 w dR ⟨h, hs⟩
 refine aI hs rfl (fun c35 hs => ?_) (fun c35 hs => ?_)
 refine nG (aa (ae (v := (.bool (false))) rfl) (nR (aB (ay (ay (aB (ay (bR (v := (.bool (false))) Tryz.results45 rfl (⟨_, rfl, ?_⟩)))))))))
 refine aa (bY (b := true) (v := (.bool (false))) (cB c7) rfl) (aa (ae (v := (.bool (false))) rfl) (nR (bR (v := (.bool (false))) Tryz.results24 rfl ?_)))
 obtain rfl := fM hs
 exact ⟨h.grown, rfl⟩
 refine aH (ax (ak (aD (aa (dQ rfl rfl Qz) (aa (ah (v := (I6 ((i10 + 1)))) rfl) (aA (au ?_)))))))
 subst I5
 exact jM ⟨k9 + 1, i10 + 1⟩ ⟨h.cn _, by omega, hs⟩ (by have := oD e14; dsimp only; omega)
 refine aD (aa (ah (v := (.func (.func 59) #[] #[])) rfl) (aa (bU (vs := [(I6 fT.proc), (I6 fT.at_), u21, (I6 fT.kD)]) h 9 rfl gz rfl rfl rfl) (aa (bU (vs := [(I6 x24.proc), (I6 x24.at_), u31, (I6 x24.kD)]) h 12 rfl gz rfl rfl rfl) (jY (args := [(.agg #[(I6 fT.proc), (I6 fT.at_), u21, (I6 fT.kD)]), (.agg #[(I6 x24.proc), (I6 x24.at_), u31, (I6 x24.kD)])]) fnOk59 rfl rfl (aQ (args := [(.agg #[(I6 fT.proc), (I6 fT.at_), u21, (I6 fT.kD)]), (.agg #[(I6 x24.proc), (I6 x24.at_), u31, (I6 x24.kD)])]) Tryz.func59 rfl Tryz.ntmps59 (bD rfl) (nG (kM (cs := [(I6 fT.proc), (I6 fT.at_), u21, (I6 fT.kD)]) h 13 rfl rfl fun w b36 h => kM (cs := [(I6 x24.proc), (I6 x24.at_), u31, (I6 x24.kD)]) h 14 rfl rfl fun w b37 h => aa (ae (v := (.bool (false))) rfl) (nJ (aa (ag tq rfl) (aa (az h 13 rfl aR rfl rfl) (aa (ag tq rfl) (aa (az h 14 rfl aR rfl rfl) (aa (bu rfl rfl) (aa (ah (v := (.bool (decide ((fT.proc : Int) = x24.proc)))) rfl) (aF rfl rfl (fun q => ag nO rfl) (aF rfl rfl (fun q => az h 13 rfl aR (eu q) rfl) (aF rfl rfl (fun q => ag nO rfl) ?_)))))))))))))))))
 refine aF rfl rfl (fun q => az h 14 rfl aR (eu q) rfl) (aF rfl rfl (fun q => bu (eu q) (eu q)) (aa (fZ rfl rfl mY) (aa (ah (v := (.bool ((decide ((fT.proc : Int) = x24.proc) && decide ((fT.at_ : Int) = x24.at_))))) rfl) (aF rfl rfl (fun q => ag zg rfl) (aF rfl rfl (fun q => az h 13 rfl aR (eu q) rfl) (aF rfl rfl (fun q => ag zg rfl) (aF rfl rfl (fun q => az h 14 rfl aR (eu q) rfl) (aF rfl rfl (fun q => bu (eu q) (eu q)) (aa (fZ rfl rfl mY) (aa (ah (v := (.bool (((decide ((fT.proc : Int) = x24.proc) && decide ((fT.at_ : Int) = x24.at_)) && decide ((fT.kD : Int) = x24.kD))))) rfl) (gT (b := ((decide ((fT.proc : Int) = x24.proc) && decide ((fT.at_ : Int) = x24.at_)) && decide ((fT.kD : Int) = x24.kD))) hs (fun G7 hs => ?_) (fun G7 hs => ?_))))))))))))
 refine cz rfl (cB G7) (aa (ag jJ rfl) (cz rfl (cB G7) (aa (az h 13 rfl jH rfl rfl) (cz rfl (cB G7) (aa (ag jJ rfl) (cz rfl (cB G7) (aa (az h 14 rfl jH rfl rfl) (cz rfl (cB G7) ?_))))))))
 obtain ⟨y39, e40, hs⟩ := aL hs
 refine aW Qq rfl rfl (rq _ _ h.lt u21 fT.regs (h.kL 8 rfl) u31 x24.regs (h.kL 11 rfl) _ e40) ?_
 rintro _ w ⟨k41, rfl⟩
 refine ⟨_, rfl, ?_⟩
 replace h := h.grow k41
 refine aa (bY (b := true) (v := (.bool (y39))) (cB G7) rfl) (aa (ae (v := (.bool (y39))) rfl) (nR (bR (v := (.bool (y39))) Tryz.results59 rfl (⟨_, rfl, ?_⟩))))
 refine aa (fw rfl) (aA (au ?_))
 exact bS (!y39) ⟨h.cn _, hs⟩
 refine mO rfl (cB G7) rfl (mO rfl (cB G7) rfl (mO rfl (cB G7) rfl (mO rfl (cB G7) rfl (mO rfl (cB G7) rfl (aa (bY (b := false) (v := (.bool (false))) (cB G7) rfl) (aa (ae (v := (.bool (false))) rfl) (nR (bR (v := (.bool (false))) Tryz.results59 rfl (⟨_, rfl, ?_⟩)))))))))
 refine aa (fw rfl) (aA (au ?_))
 exact bS true ⟨h.cn _, hs⟩
 rw [fH (hik ▸ e14), ll] at hs
 refine nE (aa (ae (v := (.bool (true))) rfl) (nR (bR (v := (.bool (true))) Tryz.results45 rfl (⟨_, rfl, ?_⟩))))
 refine aa (bY (b := true) (v := (.bool (true))) (cB c7) rfl) (aa (ae (v := (.bool (true))) rfl) (nR (bR (v := (.bool (true))) Tryz.results24 rfl ?_)))
 obtain rfl := fM hs
 exact ⟨h.grown, rfl⟩
 refine mO rfl (cB c7) rfl (mO rfl (cB c7) rfl (mO rfl (cB c7) rfl (mO rfl (cB c7) rfl (mO rfl (cB c7) rfl (aa (bY (b := false) (v := (.bool (false))) (cB c7) rfl) (aa (ae (v := (.bool (false))) rfl) (nR (bR (v := (.bool (false))) Tryz.results24 rfl ?_))))))))
 obtain rfl := fM hs
 exact ⟨h.grown, rfl⟩
 refine mO rfl (cB c3) rfl (mO rfl (cB c3) rfl (mO rfl (cB c3) rfl (mO rfl (cB c3) rfl (mO rfl (cB c3) rfl (aa (bY (b := false) (v := (.bool (false))) (cB c3) rfl) (aa (ah (v := (.bool (false))) rfl) (fK (b' := false) rfl rfl rfl (fK (b' := false) rfl rfl rfl (fK (b' := false) rfl rfl rfl (fK (b' := false) rfl rfl rfl (fK (b' := false) rfl rfl rfl (aa (bY (b := false) (v := (.bool (false))) rfl rfl) (aa (ae (v := (.bool (false))) rfl) (nR (bR (v := (.bool (false))) Tryz.results24 rfl ?_)))))))))))))))
 obtain rfl := fM hs
 exact ⟨h.grown, rfl⟩
def mr (a : Val) (b : Int) (x2 : Bool) : Int :=
  bif x2 then 4 else bif (decide ((a.kind : Int) = 1) && (!(dW a.n))) then 3 else bif (decide ((a.kind : Int) = 2) && (!(aJ a.n b))) then 5 else 0
def bW (a : Val) (b : Int) : Int :=
  bif (!(aO a.kind 0 2)) then mr a b (!(aO a.kind 0 2)) else mr a b (decide ((a.kind : Int) = 0) && decide ((a.n : Int) ≠ 0))
theorem wG (w0 : World) (M : BS) (hM : ∀ b, M b → b < w0.heap.size) (a : Val) (b : Int) (r : Int) (hs : bW a b = r) :
    Calls Tryz.prog 56 #[(.agg #[(I6 a.kind), (I6 a.n)]), (I6 b)] w0 (fun e w' => Grow w0 w' ∧ e = .returned (.int .i64 r)) := by
 refine aQ (args := [(.agg #[(I6 a.kind), (I6 a.n)]), (I6 b)]) Tryz.func56 rfl Tryz.ntmps56 (bD rfl) ?_
 have h := SH.init hM
 refine nG (kM (cs := [(I6 a.kind), (I6 a.n)]) h 1 rfl rfl fun w b1 h => aa (ae (v := (I6 0)) rfl) (nN (aM (aN (cu (σ := Bool) (inl (rg 5 13)) (fun x2 => [(5, (.bool (x2)))]) (fun x2 w => SH w0 M BE w (hset [(1, .blk b1 [(I6 a.kind), (I6 a.n)])]) ∧ mr a b x2 = r) ?_ ?_)))))
 rintro x2 w dR ⟨h, hs⟩
 refine aI hs rfl (fun c3 hs => ?_) (fun c3 hs => ?_)
 refine nG (aa (ae (v := (I6 4)) rfl) (nR (aB (ay (bR (v := (I6 4)) Tryz.results56 rfl ?_)))))
 obtain rfl := hs
 exact ⟨h.grown, rfl⟩
 refine nG (aa (ag lJ rfl) (aa (az h 1 rfl aR rfl rfl) (aa (bu rfl rfl) (aa (ah (v := (.bool (decide ((a.kind : Int) = 1)))) rfl) (aF rfl rfl (fun q => ag fu rfl) (aF rfl rfl (fun q => az h 1 rfl aR (eu q) rfl) (zn rfl rfl MI rfl (fun q => jP (eu q) rfl) (o7 _ _ h.lt a.n _ rfl) fun w k4 => ?_)))))))
 replace h := h.grow k4
 refine aF rfl rfl (fun q => fw (eu q)) (aa (fZ rfl rfl mY) (aa (ae (v := (.bool ((decide ((a.kind : Int) = 1) && (!(dW a.n)))))) rfl) (nN (aI hs rfl (fun c5 hs => ?_) (fun c5 hs => ?_)))))
 refine nG (aa (ae (v := (I6 3)) rfl) (nR (aB (ay (bR (v := (I6 3)) Tryz.results56 rfl ?_)))))
 obtain rfl := hs
 exact ⟨h.grown, rfl⟩
 refine nG (aa (ag lJ rfl) (aa (az h 1 rfl aR rfl rfl) (aa (bu rfl rfl) (aa (ah (v := (.bool (decide ((a.kind : Int) = 2)))) rfl) (aF rfl rfl (fun q => ag fu rfl) (aF rfl rfl (fun q => az h 1 rfl aR (eu q) rfl) (aF rfl rfl (fun q => ah (v := (I6 b)) rfl) (zn rfl rfl Bd rfl (fun q => jP (eu q) (jP (eu q) rfl)) (gX _ _ h.lt a.n b _ rfl) fun w k6 => ?_))))))))
 replace h := h.grow k6
 refine aF rfl rfl (fun q => fw (eu q)) (aa (fZ rfl rfl mY) (aa (ae (v := (.bool ((decide ((a.kind : Int) = 2) && (!(aJ a.n b)))))) rfl) (nN (aI hs rfl (fun c7 hs => ?_) (fun c7 hs => ?_)))))
 refine nG (aa (ae (v := (I6 5)) rfl) (nR (aB (ay (bR (v := (I6 5)) Tryz.results56 rfl ?_)))))
 obtain rfl := hs
 exact ⟨h.grown, rfl⟩
 refine aH (ax (ak (nG (aa (ae (v := (I6 0)) rfl) (nR (bR (v := (I6 0)) Tryz.results56 rfl ?_))))))
 obtain rfl := hs
 exact ⟨h.grown, rfl⟩
 refine nG (aa (ag lJ rfl) (aa (az h 1 rfl aR rfl rfl) (aW rZ rfl rfl (eH _ _ h.lt a.kind 0 2 _ rfl) ?_)))
 rintro _ w ⟨k8, rfl⟩
 refine ⟨_, rfl, ?_⟩
 replace h := h.grow k8
 refine aa (fw rfl) (aa (ae (v := (.bool ((!(aO a.kind 0 2))))) rfl) (nN (aI hs rfl (fun c9 hs => ?_) (fun c9 hs => ?_))))
 refine aH (au ?_)
 exact bS (!(aO a.kind 0 2)) ⟨h.cn _, hs⟩
 refine aD (aa (ag lJ rfl) (aa (az h 1 rfl aR rfl rfl) (aa (bu rfl rfl) (aa (ah (v := (.bool (decide ((a.kind : Int) = 0)))) rfl) (aF rfl rfl (fun q => ag fu rfl) (aF rfl rfl (fun q => az h 1 rfl aR (eu q) rfl) (aF rfl rfl (fun q => gM (eu q) rfl) (aa (fZ rfl rfl mY) (aa (ae (v := (.bool ((decide ((a.kind : Int) = 0) && decide ((a.n : Int) ≠ 0))))) rfl) (aA (au ?_)))))))))))
 exact bS (decide ((a.kind : Int) = 0) && decide ((a.n : Int) ≠ 0)) ⟨h.cn _, hs⟩
def jg (a : List (List Val)) (x20 : Val) (s : Unit) (nx22 : Unit → Int) : Int :=
  bif decide (((bW x20 (a.length : Int)) : Int) ≠ 0) then (bW x20 (a.length : Int)) else nx22 ()
def jh (G5 : Unit → Int) (s : Unit) : Int :=
  G5 ()
def ji (a : List (List Val)) (x4 : List Val) (s : Unit) (G5 : Unit → Int) : Int :=
  bif (!(aO (x4.length : Int) 1 4)) then 2 else each (jg a) (jh G5) x4 ()
def jk (s : Unit) : Int :=
  0
def gK (a : List (List Val)) : Int :=
  bif decide ((24 : Int) < (a.length : Int)) then 2 else each (ji a) jk a ()
theorem Cw (w0 : World) (M : BS) (hM : ∀ b, M b → b < w0.heap.size) (va : Value) (a : List (List Val)) (ha : gB (l9 bz) w0 BE M va a) (r : Int) (hs : gK a = r) :
    Calls Tryz.prog 54 #[va] w0 (fun e w' => Grow w0 w' ∧ e = .returned (.int .i64 r)) := by
 refine aQ (args := [va]) Tryz.func54 rfl Tryz.ntmps54 (bD rfl) ?_
 have h := SH.init hM
 replace h := h.fE 1 ha bA
 have uU := ha.bT
 refine nG (aa (ae (v := (I6 0)) rfl) (nK (aa (ah (v := va) rfl) (aa (bM dV rfl (h.gV 1 rfl)) (aa (mV rfl rfl) (nN (aI hs rfl (fun c1 hs => ?_) (fun c1 hs => ?_))))))))
 refine nG (aa (ae (v := (I6 2)) rfl) (nR (ay (bR (v := (I6 2)) Tryz.results54 rfl ?_))))
 obtain rfl := hs
 exact ⟨h.grown, rfl⟩
 refine aH (ak (aM (nG (aa (ah (v := va) rfl) (aa (bM dV rfl (h.gV 1 rfl)) (aa (ah (v := (I6 0)) rfl) (nN (aN (gD (σ := Nat × Int) (inl ([2, 4, 6, 7] ++ rg 13 23)) (fun ⟨k2, i3⟩ => [(13, (I6 i3))]) (fun ⟨k2, i3⟩ w => SH w0 M BE w (hset [(1, .sr (l9 bz) va a)]) ∧ i3 = (k2 : Int) ∧ each (ji a) jk (a.drop k2) () = r) (fun ⟨k2, i3⟩ => a.length - k2) ⟨0, 0⟩ ⟨rfl, trivial⟩ ?_ ?_)))))))))
 exact ⟨h.cn _, rfl, hs⟩
 rintro ⟨k2, i3⟩ w dR ⟨h, hik, hs⟩
 refine nG ?_
 refine aa (eO rfl rfl) (nN ?_)
 refine aM (gQ rfl (fun e7 => ?_) (fun e7 => ?_))
 refine aH (ak ?_)
 obtain ⟨x4, e8a, e8b⟩ := fG (hik ▸ e7)
 rw [e8b, dU] at hs
 generalize G6 : each (ji a) jk (a.drop (k2 + 1)) = G5 at hs
 have Ug := fJ ((h.gV 1 rfl)).bT hik e7
 refine aM (aN (nG ?_))
 obtain ⟨b10, o11, cs12, h, r13, i9⟩ := h.xI 1 2 rfl dV rfl (ig hik) (fI hik e8a)
 obtain ⟨Lu, rfl, g15⟩ := r13
 replace h := h.dh 3 g15.up
 refine aa (i9 _ _ _ _ _ _ _ _ _ rfl rfl) (aa (fo (k := 0) h 2 rfl jH rfl rfl) (aa (ae (v := Lu) rfl) (nK (aa (ah (v := Lu) rfl) (aa (bM aZ rfl (h.kL 3 rfl)) (aW rZ rfl rfl (eH _ _ h.lt (x4.length : Int) 1 4 _ rfl) ?_))))))
 rintro _ w ⟨k16, rfl⟩
 refine ⟨_, rfl, ?_⟩
 replace h := h.grow k16
 refine aa (fw rfl) (nN (aI hs rfl (fun c17 hs => ?_) (fun c17 hs => ?_)))
 refine nG (aa (ae (v := (I6 2)) rfl) (nR (ay (aB (ay (ay (aB (ay (bR (v := (I6 2)) Tryz.results54 rfl ?_)))))))))
 obtain rfl := hs
 exact ⟨h.grown, rfl⟩
 refine nS (aa (ah (v := Lu) rfl) (aa (bM aZ rfl (h.kL 3 rfl)) (aa (ah (v := (I6 0)) rfl) (nN (aN (gD (σ := Nat × Int) (inl ([2, 6, 7] ++ rg 23 12)) (fun ⟨k18, i19⟩ => [(23, (I6 i19))]) (fun ⟨k18, i19⟩ w => SH w0 M BE w (hset [(1, .sr (l9 bz) va a), (3, .rd bz Lu x4)]) ∧ i19 = (k18 : Int) ∧ each (jg a) (jh G5) (x4.drop k18) () = r) (fun ⟨k18, i19⟩ => x4.length - k18) ⟨0, 0⟩ ⟨rfl, trivial⟩ ?_ ?_))))))
 exact ⟨h.cn _, rfl, hs⟩
 rintro ⟨k18, i19⟩ w dR ⟨h, hik, hs⟩
 refine nG ?_
 refine aa (eO rfl rfl) (nN ?_)
 refine aM (gQ rfl (fun e23 => ?_) (fun e23 => ?_))
 refine aH (ak ?_)
 obtain ⟨x20, e24a, e24b⟩ := fG (hik ▸ e23)
 rw [e24b, dU] at hs
 generalize hnx22 : each (jg a) (jh G5) (x4.drop (k18 + 1)) = nx22 at hs
 have e24r := fJ ((h.kL 3 rfl)).bT hik e23
 refine aM (aN (nG ?_))
 obtain ⟨b26, o27, cs28, h, r29, i25⟩ := h.Cn 3 4 rfl aZ rfl (ig hik) (fI hik e24a)
 obtain rfl := r29
 refine aa (i25 _ _ _ _ _ _ _ _ _ rfl rfl) (aa (jc (k := 0) (vs := [(I6 x20.kind), (I6 x20.n)]) h 4 rfl aY rfl rfl rfl (bD rfl)) (bI h 5 aY fun w b30 h => dK (vs := [(I6 x20.kind), (I6 x20.n)]) h 5 [(I6 x20.kind), (I6 x20.n)] rfl aY rfl rfl rfl rfl rfl (ai rfl (ai rfl aS)) fun w h => nJ (aa (bU (vs := [(I6 x20.kind), (I6 x20.n)]) h 5 rfl aY rfl rfl rfl) (aa (ah (v := va) rfl) (aa (bM dV rfl (h.gV 1 rfl)) (aW ZP rfl rfl (wG _ _ h.lt x20 (a.length : Int) _ rfl) ?_))))))
 rintro _ w ⟨k31, rfl⟩
 refine ⟨_, rfl, ?_⟩
 replace h := h.grow k31
 refine aa (ae (v := (I6 ((bW x20 (a.length : Int))))) rfl) (nJ (aa (ah (v := (I6 ((bW x20 (a.length : Int))))) rfl) (aa (gM rfl rfl) (nN (aI hs rfl (fun c32 hs => ?_) (fun c32 hs => ?_))))))
 refine nG (aa (ah (v := (I6 ((bW x20 (a.length : Int))))) rfl) (aa (ae (v := (I6 ((bW x20 (a.length : Int))))) rfl) (nR (aB (ay (ay (aB (aB (ay (ay (aB (ay (bR (v := (I6 ((bW x20 (a.length : Int))))) Tryz.results54 rfl ?_)))))))))))))
 obtain rfl := hs
 exact ⟨h.grown, rfl⟩
 refine aH (ax (ak (aD (aa (dQ rfl rfl e24r) (aa (ah (v := (I6 ((i19 + 1)))) rfl) (aA (au ?_)))))))
 subst hnx22
 exact jM ⟨k18 + 1, i19 + 1⟩ ⟨h.cn _, by omega, hs⟩ (by have := oD e23; dsimp only; omega)
 rw [fH (hik ▸ e23), fO] at hs
 refine jl (bQ (bQ (fq (ax (ak (aD (aa (dQ rfl rfl Ug) (aa (ah (v := (I6 ((i3 + 1)))) rfl) (aA (au ?_))))))))))
 subst G6
 exact jM ⟨k2 + 1, i3 + 1⟩ ⟨h.cn _, by omega, hs⟩ (by have := oD e7; dsimp only; omega)
 rw [fH (hik ▸ e7), fO] at hs
 refine nE (aa (ae (v := (I6 0)) rfl) (nR (bR (v := (I6 0)) Tryz.results54 rfl ?_)))
 obtain rfl := hs
 exact ⟨h.grown, rfl⟩
def kz (b : LX.State) (zZ : Val) (s : Unit) (nx46 : Unit → Option Int) : Option Int :=
  bif decide (((bW zZ (b.cells.length : Int)) : Int) ≠ 0) then some (bW zZ (b.cells.length : Int)) else nx46 ()
def kC (J2 : Int → Option Int) (xQ : LX.Frame) (s : Unit) : Option Int :=
  J2 (xQ.regs.length : Int)
def iw (a : List bX) (xQ : LX.Frame) (b : LX.State) (J2 : Int → Option Int) (x30 : Bool) : Option Int :=
  bif x30 then some 3 else (idx a xQ.proc).bind fun x32 => bif decide (((xQ.regs.length : Int) : Int) ≠ x32.regs) then some 4 else each (kz b) (kC J2 xQ) xQ.regs ()
def fP (a : List bX) (b : LX.State) (xQ : LX.Frame) (vY : Int) (J2 : Int → Option Int) : Option Int :=
  bif (!(aJ xQ.proc (a.length : Int))) then some 5 else (idx a xQ.proc).bind fun FI => bif (!(aJ xQ.at_ (FI.code.length : Int))) then iw a xQ b J2 true else iw a xQ b J2 (!(aJ xQ.kD vY))
def iy (vY : Int) : Option Int :=
  some 0
def kF (a : List bX) (b : LX.State) : Option Int :=
  bif ((!(aO b.status 0 3)) || (!(dW b.aK))) then some 3 else bif (((decide ((b.aK : Int) ≠ 0) && decide ((b.status : Int) ≠ 3)) || (decide ((b.status : Int) = 1) && decide ((0 : Int) < (b.frames.length : Int)))) || (decide ((b.status : Int) ≠ 1) && decide (((b.frames.length : Int) : Int) = 0))) then some 4 else bif decide ((10 : Int) < (b.frames.length : Int)) then some 2 else bif decide (((gK b.cells) : Int) ≠ 0) then some (gK b.cells) else each (fP a b) iy b.frames 1
theorem Cx (w0 : World) (M : BS) (hM : ∀ b, M b → b < w0.heap.size) (va : Value) (a : List bX) (ha : gB jE w0 BE M va a) (b : LX.State) (vb0 vb1 : Value) (hb0 : gB dL w0 BE M vb0 b.frames) (hb1 : gB (l9 bz) w0 BE M vb1 b.cells) (r : Int) (hs : kF a b = some r) :
    Calls Tryz.prog 22 #[va, (.agg #[vb0, vb1, (I6 b.status), (I6 b.aK)])] w0 (fun e w' => Grow w0 w' ∧ e = .returned (.int .i64 r)) := by
 refine aQ (args := [va, (.agg #[vb0, vb1, (I6 b.status), (I6 b.aK)])]) Tryz.func22 rfl Tryz.ntmps22 (bD rfl) ?_
 have h := SH.init hM
 replace h := h.fE 1 ha bA
 replace h := h.fE 2 hb0 (bN bA)
 replace h := h.fE 3 hb1 (bN (bN bA))
 have uU := ha.bT
 refine nG (kM (cs := [vb0, vb1, (I6 b.status), (I6 b.aK)]) h 4 rfl rfl fun w b1 h => aa (ae (v := (I6 0)) rfl) (nK (aa (ag kN rfl) (aa (az h 4 rfl aR rfl rfl) (aW rZ rfl rfl (eH _ _ h.lt b.status 0 3 _ rfl) ?_)))))
 rintro _ w ⟨k2, rfl⟩
 refine ⟨_, rfl, ?_⟩
 replace h := h.grow k2
 refine aa (fw rfl) (aa (ah (v := (.bool ((!(aO b.status 0 3))))) rfl) (aF rfl rfl (fun q => ag vJ rfl) (aF rfl rfl (fun q => az h 4 rfl aR (eu q) rfl) (zn rfl rfl MI rfl (fun q => jP (eu q) rfl) (o7 _ _ h.lt b.aK _ rfl) fun w k3 => ?_))))
 replace h := h.grow k3
 refine aF rfl rfl (fun q => fw (eu q)) (aa (jD rfl rfl mY) (nN (aI hs rfl (fun c4 hs => ?_) (fun c4 hs => ?_))))
 refine nG (aa (ae (v := (I6 3)) rfl) (nR (ay (bR (v := (I6 3)) Tryz.results22 rfl ?_))))
 obtain rfl := fM hs
 exact ⟨h.grown, rfl⟩
 refine aH (ak (aM (nG (aa (ag vJ rfl) (aa (az h 4 rfl aR rfl rfl) (aa (gM rfl rfl) (aa (ah (v := (.bool (decide ((b.aK : Int) ≠ 0)))) rfl) (aF rfl rfl (fun q => ag kN rfl) (aF rfl rfl (fun q => az h 4 rfl aR (eu q) rfl) (aF rfl rfl (fun q => gM (eu q) rfl) (aa (fZ rfl rfl mY) (aa (ah (v := (.bool ((decide ((b.aK : Int) ≠ 0) && decide ((b.status : Int) ≠ 3))))) rfl) (aF rfl rfl (fun q => ag kN rfl) (aF rfl rfl (fun q => az h 4 rfl aR (eu q) rfl) (aF rfl rfl (fun q => bu (eu q) rfl) (aF rfl rfl (fun q => ah (v := (.bool (decide ((b.status : Int) = 1)))) (eu q)) (lS ((decide ((b.aK : Int) ≠ 0) && decide ((b.status : Int) ≠ 3)) == false) rfl rfl (fun q => ag dP rfl) (lS ((decide ((b.aK : Int) ≠ 0) && decide ((b.status : Int) ≠ 3)) == false) rfl rfl (fun q => az h 4 rfl gL (eu q) rfl) (lS ((decide ((b.aK : Int) ≠ 0) && decide ((b.status : Int) ≠ 3)) == false) rfl rfl (fun q => bM bV (eu q) (h.gV 2 rfl)) (lS ((decide ((b.aK : Int) ≠ 0) && decide ((b.status : Int) ≠ 3)) == false) rfl rfl (fun q => mV (eu q) rfl) (aF rfl rfl (fun q => fZ (eu q) (TP q) mY) (aa (jD rfl rfl mY) ?_))))))))))))))))))))))
 refine aa (ah (v := (.bool (((decide ((b.aK : Int) ≠ 0) && decide ((b.status : Int) ≠ 3)) || (decide ((b.status : Int) = 1) && decide ((0 : Int) < (b.frames.length : Int))))))) rfl) (aF rfl rfl (fun q => ag kN rfl) (aF rfl rfl (fun q => az h 4 rfl aR (eu q) rfl) (aF rfl rfl (fun q => gM (eu q) rfl) (aF rfl rfl (fun q => ah (v := (.bool (decide ((b.status : Int) ≠ 1)))) (eu q)) (lS (((decide ((b.aK : Int) ≠ 0) && decide ((b.status : Int) ≠ 3)) || (decide ((b.status : Int) = 1) && decide ((0 : Int) < (b.frames.length : Int)))) == false) rfl rfl (fun q => ag dP rfl) (lS (((decide ((b.aK : Int) ≠ 0) && decide ((b.status : Int) ≠ 3)) || (decide ((b.status : Int) = 1) && decide ((0 : Int) < (b.frames.length : Int)))) == false) rfl rfl (fun q => az h 4 rfl gL (eu q) rfl) (lS (((decide ((b.aK : Int) ≠ 0) && decide ((b.status : Int) ≠ 3)) || (decide ((b.status : Int) = 1) && decide ((0 : Int) < (b.frames.length : Int)))) == false) rfl rfl (fun q => bM bV (eu q) (h.gV 2 rfl)) (lS (((decide ((b.aK : Int) ≠ 0) && decide ((b.status : Int) ≠ 3)) || (decide ((b.status : Int) = 1) && decide ((0 : Int) < (b.frames.length : Int)))) == false) rfl rfl (fun q => bu (eu q) rfl) (aF rfl rfl (fun q => fZ (eu q) (TP q) mY) (aa (jD rfl rfl mY) (nN (aI hs rfl (fun c5 hs => ?_) (fun c5 hs => ?_)))))))))))))
 refine nG (aa (ae (v := (I6 4)) rfl) (nR (ay (bR (v := (I6 4)) Tryz.results22 rfl ?_))))
 obtain rfl := fM hs
 exact ⟨h.grown, rfl⟩
 refine aH (ak (aM (nG (aa (ag dP rfl) (aa (az h 4 rfl gL rfl rfl) (aa (bM bV rfl (h.gV 2 rfl)) (aa (mV rfl rfl) (nN (aI hs rfl (fun c6 hs => ?_) (fun c6 hs => ?_))))))))))
 refine nG (aa (ae (v := (I6 2)) rfl) (nR (ay (bR (v := (I6 2)) Tryz.results22 rfl ?_))))
 obtain rfl := fM hs
 exact ⟨h.grown, rfl⟩
 refine aH (ak (aM (nG (aa (ag gJ rfl) (aa (az h 4 rfl jQ rfl rfl) (aW fnOk54 rfl rfl (Cw _ _ h.lt vb1 b.cells (h.gV 3 rfl) _ rfl) ?_))))))
 rintro _ w ⟨k7, rfl⟩
 refine ⟨_, rfl, ?_⟩
 replace h := h.grow k7
 refine aa (ae (v := (I6 ((gK b.cells)))) rfl) (nJ (aa (ah (v := (I6 ((gK b.cells)))) rfl) (aa (gM rfl rfl) (nN (aI hs rfl (fun c8 hs => ?_) (fun c8 hs => ?_))))))
 refine nG (aa (ah (v := (I6 ((gK b.cells)))) rfl) (aa (ae (v := (I6 ((gK b.cells)))) rfl) (nR (ay (bR (v := (I6 ((gK b.cells)))) Tryz.results22 rfl ?_)))))
 obtain rfl := fM hs
 exact ⟨h.grown, rfl⟩
 refine nS (aa (ae (v := (I6 1)) rfl) (nK (aa (ag dP rfl) (aa (az h 4 rfl gL rfl rfl) (aa (bM bV rfl (h.gV 2 rfl)) (aa (ah (v := (I6 0)) rfl) (nN (aN (gD (σ := Nat × Int × Int) (inl ([4, 6, 8, 10, 11] ++ rg 65 56)) (fun ⟨k13, i14, vY⟩ => [(6, (I6 vY)), (65, (I6 i14))]) (fun ⟨k13, i14, vY⟩ w => SH w0 M BE w (hset [(1, .sr jE va a), (2, .sr dL vb0 b.frames), (3, .sr (l9 bz) vb1 b.cells), (4, .blk b1 [vb0, vb1, (I6 b.status), (I6 b.aK)])]) ∧ i14 = (k13 : Int) ∧ each (fP a b) iy (b.frames.drop k13) vY = some r) (fun ⟨k13, i14, vY⟩ => b.frames.length - k13) ⟨0, 0, 1⟩ ⟨rfl, rfl, trivial⟩ ?_ ?_)))))))))
 exact ⟨h.cn _, rfl, hs⟩
 rintro ⟨k13, i14, vY⟩ w dR ⟨h, hik, hs⟩
 refine nG ?_
 refine aa (eO rfl rfl) (nN ?_)
 refine aM (gQ rfl (fun e18 => ?_) (fun e18 => ?_))
 refine aH (ak ?_)
 obtain ⟨xQ, e19a, e19b⟩ := fG (hik ▸ e18)
 rw [e19b, dU] at hs
 generalize hnx17 : each (fP a b) iy (b.frames.drop (k13 + 1)) = J2 at hs
 have e19r := fJ ((h.gV 2 rfl)).bT hik e18
 refine aM (aN (nG ?_))
 obtain ⟨IE, o22, cs23, h, r24, i20⟩ := h.xI 2 5 rfl bV rfl (ig hik) (fI hik e19a)
 obtain ⟨u25, rfl, g26⟩ := oQ r24
 replace h := h.dh 6 g26.up
 refine aa (i20 _ _ _ _ _ _ _ _ _ rfl rfl) (aa (jc (k := 0) (vs := [(I6 xQ.proc), (I6 xQ.at_), u25, (I6 xQ.kD)]) h 5 rfl gz rfl rfl rfl (bD rfl)) (bI h 7 gz fun w b27 h => dK (vs := [(I6 xQ.proc), (I6 xQ.at_), u25, (I6 xQ.kD)]) h 7 [(I6 xQ.proc), (I6 xQ.at_), u25, (I6 xQ.kD)] rfl gz rfl rfl rfl rfl rfl (ai rfl (ai rfl (ai (h.iN 6 rfl).one (ai rfl aS)))) fun w h => nK (aa (ag tq rfl) (aa (az h 7 rfl aR rfl rfl) (aa (ah (v := va) rfl) (aa (bM gU rfl (h.gV 1 rfl)) (aW Bd rfl rfl (gX _ _ h.lt xQ.proc (a.length : Int) _ rfl) ?_)))))))
 rintro _ w ⟨k28, rfl⟩
 refine ⟨_, rfl, ?_⟩
 replace h := h.grow k28
 refine aa (fw rfl) (nN (aI hs rfl (fun c29 hs => ?_) (fun c29 hs => ?_)))
 refine nG (aa (ae (v := (I6 5)) rfl) (nR (ay (aB (ay (ay (aB (ay (bR (v := (I6 5)) Tryz.results22 rfl ?_)))))))))
 obtain rfl := fM hs
 exact ⟨h.grown, rfl⟩
 refine aH (ak (aM (cu (σ := Bool) (inl (rg 75 18)) (fun x30 => [(92, (.bool (x30)))]) (fun x30 w => SH w0 M BE w (hset [(1, .sr jE va a), (2, .sr dL vb0 b.frames), (3, .sr (l9 bz) vb1 b.cells), (4, .blk b1 [vb0, vb1, (I6 b.status), (I6 b.aK)]), (6, .rd bz u25 xQ.regs), (7, .blk b27 [(I6 xQ.proc), (I6 xQ.at_), u25, (I6 xQ.kD)])]) ∧ iw a xQ b J2 x30 = some r) ?_ ?_)))
 rintro x30 w dR ⟨h, hs⟩
 refine aI hs rfl (fun c31 hs => ?_) (fun c31 hs => ?_)
 refine nG (aa (ae (v := (I6 3)) rfl) (nR (ay (aB (ay (ay (aB (ay (bR (v := (I6 3)) Tryz.results22 rfl ?_)))))))))
 obtain rfl := fM hs
 exact ⟨h.grown, rfl⟩
 refine aH (ak (aM (nG (aa (ag jJ rfl) (aa (az h 7 rfl jH rfl rfl) (aa (bM aZ rfl (h.kL 6 rfl)) (aa (ae (v := (I6 ((xQ.regs.length : Int)))) rfl) (nJ (aa (ah (v := (I6 ((xQ.regs.length : Int)))) rfl) (aa (ah (v := va) rfl) (aa (ag tq rfl) (aa (az h 7 rfl aR rfl rfl) ?_))))))))))))
 obtain ⟨x32, e33, hs⟩ := aL hs
 obtain ⟨b35, o36, cs37, h, r38, i34⟩ := h.xI 1 8 rfl gU rfl (aC e33).1 (aC e33).2
 obtain ⟨Q7, rfl, g40⟩ := jN r38
 replace h := h.dh 9 g40.up
 refine aa (i34 _ _ _ _ _ _ _ _ _ rfl rfl) (aa (ag vK rfl) (aa (fo (k := 1) h 8 rfl aR rfl rfl) (aa (gM rfl rfl) (nN (aI hs rfl (fun c41 hs => ?_) (fun c41 hs => ?_))))))
 refine nG (aa (ae (v := (I6 4)) rfl) (nR (ay (aB (ay (ay (aB (ay (bR (v := (I6 4)) Tryz.results22 rfl ?_)))))))))
 obtain rfl := fM hs
 exact ⟨h.grown, rfl⟩
 refine nS (aa (ag jJ rfl) (aa (az h 7 rfl jH rfl rfl) (aa (bM aZ rfl (h.kL 6 rfl)) (aa (ah (v := (I6 0)) rfl) (nN (aN (gD (σ := Nat × Int) (inl ([4, 10, 11] ++ rg 107 13)) (fun ⟨Qw, i43⟩ => [(107, (I6 i43))]) (fun ⟨Qw, i43⟩ w => SH w0 M BE w (hset [(1, .sr jE va a), (2, .sr dL vb0 b.frames), (3, .sr (l9 bz) vb1 b.cells), (4, .blk b1 [vb0, vb1, (I6 b.status), (I6 b.aK)]), (6, .rd bz u25 xQ.regs)]) ∧ i43 = (Qw : Int) ∧ each (kz b) (kC J2 xQ) (xQ.regs.drop Qw) () = some r) (fun ⟨Qw, i43⟩ => xQ.regs.length - Qw) ⟨0, 0⟩ ⟨rfl, trivial⟩ ?_ ?_)))))))
 exact ⟨h.cn _, rfl, hs⟩
 rintro ⟨Qw, i43⟩ w dR ⟨h, hik, hs⟩
 refine nG ?_
 refine aa (eO rfl rfl) (nN ?_)
 refine aM (gQ rfl (fun e47 => ?_) (fun e47 => ?_))
 refine aH (ak ?_)
 obtain ⟨zZ, e48a, e48b⟩ := fG (hik ▸ e47)
 rw [e48b, dU] at hs
 generalize hnx46 : each (kz b) (kC J2 xQ) (xQ.regs.drop (Qw + 1)) = nx46 at hs
 have e48r := fJ ((h.kL 6 rfl)).bT hik e47
 refine aM (aN (nG ?_))
 obtain ⟨b50, o51, cs52, h, r53, i49⟩ := h.Cn 6 10 rfl aZ rfl (ig hik) (fI hik e48a)
 obtain rfl := r53
 refine aa (i49 _ _ _ _ _ _ _ _ _ rfl rfl) (aa (jc (k := 0) (vs := [(I6 zZ.kind), (I6 zZ.n)]) h 10 rfl aY rfl rfl rfl (bD rfl)) (bI h 11 aY fun w b54 h => dK (vs := [(I6 zZ.kind), (I6 zZ.n)]) h 11 [(I6 zZ.kind), (I6 zZ.n)] rfl aY rfl rfl rfl rfl rfl (ai rfl (ai rfl aS)) fun w h => nJ (aa (bU (vs := [(I6 zZ.kind), (I6 zZ.n)]) h 11 rfl aY rfl rfl rfl) (aa (ag gJ rfl) (aa (az h 4 rfl jQ rfl rfl) (aa (bM dV rfl (h.gV 3 rfl)) (aW ZP rfl rfl (wG _ _ h.lt zZ (b.cells.length : Int) _ rfl) ?_)))))))
 rintro _ w ⟨k55, rfl⟩
 refine ⟨_, rfl, ?_⟩
 replace h := h.grow k55
 refine aa (ae (v := (I6 ((bW zZ (b.cells.length : Int))))) rfl) (nJ (aa (ah (v := (I6 ((bW zZ (b.cells.length : Int))))) rfl) (aa (gM rfl rfl) (nN (aI hs rfl (fun c56 hs => ?_) (fun c56 hs => ?_))))))
 refine nG (aa (ah (v := (I6 ((bW zZ (b.cells.length : Int))))) rfl) (aa (ae (v := (I6 ((bW zZ (b.cells.length : Int))))) rfl) (nR (aB (ay (ay (aB (aB (ay (ay (aB (ay (bR (v := (I6 ((bW zZ (b.cells.length : Int))))) Tryz.results22 rfl ?_)))))))))))))
 obtain rfl := fM hs
 exact ⟨h.grown, rfl⟩
 refine aH (ax (ak (aD (aa (dQ rfl rfl e48r) (aa (ah (v := (I6 ((i43 + 1)))) rfl) (aA (au ?_)))))))
 subst hnx46
 exact jM ⟨Qw + 1, i43 + 1⟩ ⟨h.cn _, by omega, hs⟩ (by have := oD e47; dsimp only; omega)
 rw [fH (hik ▸ e47), fO] at hs
 refine jl (bQ (bQ (fq (ax (ak (aD (aa (dQ rfl rfl e19r) (aa (ah (v := (I6 ((i14 + 1)))) rfl) (aA (au ?_))))))))))
 subst hnx17
 exact jM ⟨k13 + 1, i14 + 1, (xQ.regs.length : Int)⟩ ⟨h.cn _, by omega, hs⟩ (by have := oD e18; dsimp only; omega)
 refine zf mixed h fun w h => eG 0 (aP.refl BE _) rfl aj (by kernel_rfl) (by kernel_rfl) (by kernel_rfl) (fun w hk => ag nO rfl) (eG 1 (aP.refl BE _) rfl aj (by kernel_rfl) (by kernel_rfl) (by kernel_rfl) (fun w hk => have h := h.grow hk; az h 7 rfl aR rfl rfl) (eG 2 (aP.refl BE _) rfl aj (by kernel_rfl) (by kernel_rfl) (by kernel_rfl) (fun w hk => ah (v := va) rfl) (eG 3 (aP.refl BE _) rfl aj (by kernel_rfl) (by kernel_rfl) (by kernel_rfl) (fun w hk => ag tq rfl) (eG 4 (aP.refl BE _) rfl aj (by kernel_rfl) (by kernel_rfl) (by kernel_rfl) (fun w hk => have h := h.grow hk; az h 7 rfl aR rfl rfl) ?_))))
 obtain ⟨FI, Sq, hs⟩ := aL hs
 obtain ⟨bq57x5_4, oq57x5_5, csq57x5_6, h, rq57x5_7, iq57x5_3⟩ := h.xI 1 72 rfl gU rfl (aC Sq).1 (aC Sq).2
 obtain ⟨uq57x5_8, rfl, gq57x5_9⟩ := jN rq57x5_7
 replace h := h.dh 73 gq57x5_9.up
 refine eG 5 (aP.refl BE _) rfl aj (by kernel_rfl) (by kernel_rfl) (by kernel_rfl) (fun w hk => iq57x5_3 _ _ _ _ _ _ _ _ _ rfl rfl) (eG 6 (aP.refl BE _) rfl aj (by kernel_rfl) (by kernel_rfl) (by kernel_rfl) (fun w hk => ag nP rfl) (eG 7 (aP.refl BE _) rfl aj (by kernel_rfl) (by kernel_rfl) (by kernel_rfl) (fun w hk => have h := h.grow hk; fo (k := 2) h 72 rfl xh rfl rfl) (eG 8 (aP.refl BE _) rfl aj (by kernel_rfl) (by kernel_rfl) (by kernel_rfl) (fun w hk => bM iD rfl (h.kL 73 rfl)) ?_)))
 obtain ⟨ws58, ws58e⟩ : ∃ x, x = w := ⟨_, rfl⟩
 have KJ : Grow ws58 w := ws58e ▸ aP.refl BE w
 refine CP ws58e.symm (mg 9 (by kernel_rfl) rfl aj (aW Bd rfl rfl (gX _ _ h.lt xQ.at_ (FI.code.length : Int) _ rfl) ?_))
 rintro _ w ⟨Sr, rfl⟩
 refine ⟨_, rfl, ?_⟩
 replace h := h.grow Sr
 replace KJ := KJ.trans Sr
 refine aA (iU KJ (jG 10 KJ rfl (by kernel_rfl) (fun w hk => fw rfl) (jG 11 KJ rfl (by kernel_rfl) (fun w hk => ah (v := (.bool ((!(aJ xQ.at_ (FI.code.length : Int)))))) rfl) (gT (b := (!(aJ xQ.at_ (FI.code.length : Int)))) hs (fun I9 hs => ?_) (fun I9 hs => ?_)))))
 refine iC 12 KJ rfl (gy (b' := true) rfl (cB I9) rfl) (by kernel_rfl) (by kernel_rfl) (by kernel_rfl) (iC 13 KJ rfl (gy (b' := true) rfl (cB I9) rfl) (by kernel_rfl) (by kernel_rfl) (by kernel_rfl) (iC 14 KJ rfl (gy (b' := true) rfl (cB I9) rfl) (by kernel_rfl) (by kernel_rfl) (by kernel_rfl) (iC 15 KJ rfl (gy (b' := true) rfl (cB I9) rfl) (by kernel_rfl) (by kernel_rfl) (by kernel_rfl) (iC 16 KJ rfl (gy (b' := true) rfl (cB I9) rfl) (by kernel_rfl) (by kernel_rfl) (by kernel_rfl) (jG 17 KJ rfl (by kernel_rfl) (fun w hk => bY (b := true) (v := (.bool (true))) (cB I9) rfl) (qQ (by kernel_rfl) (au ?_)))))))
 exact bS true ⟨h.cn _, hs⟩
 refine eG 12 KJ rfl (ow rfl (cB I9)) (by kernel_rfl) (by kernel_rfl) (by kernel_rfl) (fun w hk => ag zg rfl) (LM KJ ?_)
 obtain ⟨U1, Su⟩ : ∃ x, x = w := ⟨_, rfl⟩
 have hgq57x13_2 : Grow U1 w := Su ▸ aP.refl _ _
 refine eG 13 (aP.refl BE _) rfl (ow rfl (cB I9)) (by kernel_rfl) (by kernel_rfl) (by kernel_rfl) (fun w hk => have h := h.grow hk; az h 7 rfl aR rfl rfl) (eG 14 (aP.refl BE _) rfl (ow rfl (cB I9)) (by kernel_rfl) (by kernel_rfl) (by kernel_rfl) (fun w hk => ah (v := (I6 vY)) rfl) ?_)
 obtain ⟨ws61, ws61e⟩ : ∃ x, x = w := ⟨_, rfl⟩
 have hg62 : Grow ws61 w := ws61e ▸ aP.refl BE w
 refine CP ws61e.symm (mg 15 (by kernel_rfl) rfl (ow rfl (cB I9)) (aW Bd rfl rfl (gX _ _ h.lt xQ.kD vY _ rfl) ?_))
 rintro _ w ⟨Pm, rfl⟩
 refine ⟨_, rfl, ?_⟩
 replace h := h.grow Pm
 replace hg62 := hg62.trans Pm
 refine aA (iU hg62 (eG 16 hg62 rfl (ow rfl (cB I9)) (by kernel_rfl) (by kernel_rfl) (by kernel_rfl) (fun w hk => fw rfl) (jG 17 hg62 rfl (by kernel_rfl) (fun w hk => bY (b := false) (v := (.bool ((!(aJ xQ.kD vY))))) (cB I9) rfl) (qQ (by kernel_rfl) (au ?_)))))
 exact bS (!(aJ xQ.kD vY)) ⟨h.cn _, hs⟩
 rw [fH (hik ▸ e18), fO] at hs
 refine nE (aa (ae (v := (I6 0)) rfl) (nR (bR (v := (I6 0)) Tryz.results22 rfl ?_)))
 obtain rfl := fM hs
 exact ⟨h.grown, rfl⟩
def kK (a : List Int) (b : Int) (i2 : Int) (s : Unit) (K9 : Unit → Option Int) : Option Int :=
  (idx a i2).bind fun x8 => bif decide ((b : Int) = x8) then some i2 else K9 ()
def ou (s : Unit) : Option Int :=
  some (-1)
def slices_Index_int (a : List Int) (b : Int) : Option Int :=
  upto (kK a b) ou 0 ((a.length : Int)).toNat ()
theorem wW (w0 : World) (M : BS) (hM : ∀ b, M b → b < w0.heap.size) (va : Value) (a : List Int) (ha : gB eY w0 BE M va a) (b : Int) (r : Int) (hs : slices_Index_int a b = some r) :
    Calls Tryz.prog 68 #[va, (I6 b)] w0 (fun e w' => Grow w0 w' ∧ e = .returned (.int .i64 r)) := by
 refine aQ (args := [va, (I6 b)]) Tryz.func68 rfl Tryz.ntmps68 (bD rfl) ?_
 have h := SH.init hM
 replace h := h.fE 1 ha bA
 have uU := ha.bT
 refine nG (aa (ae (v := (I6 0)) rfl) (nK (aa (ah (v := va) rfl) (aa (bM bZ rfl (h.gV 1 rfl)) (aa (ah (v := (I6 0)) rfl) (nN (aN ?_)))))))
 have hli2 := (h.gV 1 rfl).bT
 refine gD (σ := Nat × Int) (inl ([4, 5] ++ rg 8 11)) (fun ⟨k1, i2⟩ => [(8, (I6 i2))]) (fun ⟨k1, i2⟩ w => SH w0 M BE w (hset [(1, .sr eY va a)]) ∧ i2 = (k1 : Int) ∧ upto (kK a b) ou i2 (((a.length : Int)).toNat - k1) () = some r) (fun ⟨k1, i2⟩ => ((a.length : Int)).toNat - k1) ⟨0, 0⟩ ⟨rfl, trivial⟩ ?_ ?_
 exact ⟨h.cn _, rfl, hs⟩
 rintro ⟨k1, i2⟩ w dR ⟨h, hik, hs⟩
 refine nG ?_
 refine aa (eO rfl rfl) (nN ?_)
 refine aM (gQ rfl (fun e6 => ?_) (fun e6 => ?_))
 refine aH (ak ?_)
 rw [sW (by have := oD e6; omega)] at hs
 generalize hnx5 : upto (kK a b) ou (i2 + 1) (((a.length : Int)).toNat - (k1 + 1)) = K9 at hs
 have e7r : kJ (i2 + 1) := (by have := oD e6; have := hli2; exact kJ.mk (by omega) (by omega))
 refine aM (aN (nG (aa (ah (v := (I6 i2)) rfl) (aa (ae (v := (I6 i2)) rfl) (nJ (aa (ah (v := (I6 b)) rfl) (aa (ah (v := va) rfl) (aa (ah (v := (I6 i2)) rfl) ?_))))))))
 obtain ⟨x8, e9, hs⟩ := aL hs
 obtain ⟨b11, o12, cs13, h, r14, i10⟩ := h.xI 1 2 rfl bZ rfl (aC e9).1 (aC e9).2
 obtain rfl := r14
 refine aa (i10 _ _ _ _ _ _ _ _ _ rfl rfl) (aa (fo (k := 0) h 2 rfl aR rfl rfl) (aa (bu rfl rfl) (nN (aI hs rfl (fun c15 hs => ?_) (fun c15 hs => ?_)))))
 refine nG (aa (ah (v := (I6 i2)) rfl) (aa (ae (v := (I6 i2)) rfl) (nR (aB (ay (ay (aB (ay (bR (v := (I6 i2)) Tryz.results68 rfl ?_)))))))))
 obtain rfl := fM hs
 exact ⟨h.grown, rfl⟩
 refine aH (ax (ak (aD (aa (dQ rfl rfl e7r) (aa (ah (v := (I6 ((i2 + 1)))) rfl) (aA (au ?_)))))))
 subst hnx5
 exact jM ⟨k1 + 1, i2 + 1⟩ ⟨h.cn _, by omega, hs⟩ (by have := oD e6; dsimp only; omega)
 rw [sZ (by have := of_decide_eq_false e6; omega)] at hs
 refine nE (aa (ae (v := (I6 (-1))) rfl) (nR (bR (v := (I6 (-1))) Tryz.results68 rfl ?_)))
 obtain rfl := fM hs
 exact ⟨h.grown, rfl⟩
def slices_Contains_int (a : List Int) (b : Int) : Option Bool :=
  (slices_Index_int a b).bind fun y1 => some (decide ((0 : Int) ≤ y1))
theorem EN (w0 : World) (M : BS) (hM : ∀ b, M b → b < w0.heap.size) (va : Value) (a : List Int) (ha : gB eY w0 BE M va a) (b : Int) (r : Bool) (hs : slices_Contains_int a b = some r) :
    Calls Tryz.prog 92 #[va, (I6 b)] w0 (fun e w' => Grow w0 w' ∧ e = .returned (.bool r)) := by
 refine aQ (args := [va, (I6 b)]) Tryz.func92 rfl Tryz.ntmps92 (bD rfl) ?_
 have h := SH.init hM
 replace h := h.fE 1 ha bA
 have uU := ha.bT
 refine nG (aa (ae (v := (.bool (false))) rfl) (nJ (aa (ah (v := va) rfl) (aa (ah (v := (I6 b)) rfl) ?_))))
 obtain ⟨y1, e2, hs⟩ := aL hs
 refine aW Ub rfl rfl (wW _ _ h.lt va a (h.gV 1 rfl) b _ e2) ?_
 rintro _ w ⟨k3, rfl⟩
 refine ⟨_, rfl, ?_⟩
 replace h := h.grow k3
 refine aa (rH rfl rfl) (aa (ae (v := (.bool (decide ((0 : Int) ≤ y1)))) rfl) (nR (bR (v := (.bool (decide ((0 : Int) ≤ y1)))) Tryz.results92 rfl ?_)))
 obtain rfl := fM hs
 exact ⟨h.grown, rfl⟩
def ru (Om : List Int → Option (List Int)) (x53 : List Int) : Option (List Int) :=
  Om x53
def ry (zZ : List Int) (yF : Val) (Om : List Int → Option (List Int)) (x60 : Bool) : Option (List Int) :=
  bif x60 then iK (Room 8 zZ [yF.n]) (ru Om (zZ ++ [yF.n])) else ru Om zZ
def lD (yF : Val) (zZ : List Int) (Om : List Int → Option (List Int)) : Option (List Int) :=
  bif decide ((yF.kind : Int) = 2) then (slices_Contains_int zZ yF.n).bind fun N8 => ry zZ yF Om (!N8) else ry zZ yF Om false
def nH (Ec : Int) (zW : (List Int × List Val × Int) → Option (List Int)) (jb : List Val) (zZ : List Int) : Option (List Int) :=
  iK (kJ (Ec + 1)) (zW (zZ, jb, (Ec + 1)))
def nI (Ec : Int) (zW : (List Int × List Val × Int) → Option (List Int)) (uM : List Int) (jb : List Val) : Option (List Int) :=
  each lD (nH Ec zW jb) jb uM
def jr (a : List (List Val)) (s : List Int × List Val × Int) (zW : List Int × List Val × Int → Option (List Int)) : Option (List Int) :=
  match s with | (uM, x25, Ec) => bif decide ((Ec : Int) < (uM.length : Int)) then bif decide ((0 : Int) ≤ Ec) then (idx uM Ec).bind fun x71 => (idx a x71).bind fun x79 => nI Ec zW uM x79 else nI Ec zW uM x25 else some uM
def wM (N : Nat) (a : List (List Val)) (b : List Val) : Option (List Int) :=
  again (jr a) N ([], b, -1)
theorem Jl (N : Nat) (w0 : World) (M : BS) (hM : ∀ b, M b → b < w0.heap.size) (va : Value) (a : List (List Val)) (ha : gB (l9 bz) w0 BE M va a) (vb : Value) (b : List Val) (hb : gB bz w0 BE M vb b) (r : List Int) (hs : wM N a b = some r) :
    Calls Tryz.prog 66 #[va, vb] w0 (fun e w' => Grow w0 w' ∧ ∃ u0, e = .returned (u0) ∧ gW eY 3 w' M u0 r ∧ (∀ b, ob u0 b → w0.heap.size ≤ b)) := by
 refine aQ (args := [va, vb]) Tryz.func66 rfl Tryz.ntmps66 (bD rfl) ?_
 have h := SH.init hM
 replace h := h.fE 1 ha bA
 replace h := h.fE 2 hb (bN bA)
 have uU := ha.bT
 have ML := hb.bT
 refine nG (aa (ae (v := (.slice none 0 0)) rfl) (nJ (aa (ae (v := (.slice none 0 0)) rfl) (nJ (aa (ah (v := vb) rfl) (aa (ae (v := vb) rfl) (nK (aa (ae (v := (I6 (-1))) rfl) (nN (aN ?_))))))))))
 replace h := h.yH (R := eY) (E := 3) 11
 replace h := h.Zh 2 12 rfl
 refine gD (σ := Nat × Value × List Int × Value × List Val × Int) (inl ([5, 6, 7, 9] ++ rg 11 37)) (fun ⟨m30, v22, uM, v24, x25, Ec⟩ => [(5, v22), (6, v24), (7, (I6 Ec))]) (fun ⟨m30, v22, uM, v24, x25, Ec⟩ w => SH w0 M BE w (hset [(1, .sr (l9 bz) va a), (11, .own eY 3 v22 uM), (12, .sr bz v24 x25)]) ∧ again (jr a) m30 (uM, x25, Ec) = some r) (fun ⟨m30, v22, uM, v24, x25, Ec⟩ => m30) ⟨N, (.slice none 0 0), [], vb, b, -1⟩ ⟨rfl, rfl, rfl, trivial⟩ ?_ ?_
 exact ⟨h.cn _, hs⟩
 rintro ⟨m30, v22, uM, v24, x25, Ec⟩ w dR ⟨h, hs⟩
 obtain ⟨m301, m30e, m30h⟩ := uq hs
 subst m30e
 replace hs := m30h
 generalize Z9 : again (jr a) m301 = zW at hs
 refine aM (nG (aa (ah (v := (I6 Ec)) rfl) (aa (ah (v := v22) rfl) (aa (bM bZ rfl (h.eT 11 rfl)) (aa (eO rfl rfl) (nN (aI hs rfl (fun c34 hs => ?_) (fun c34 hs => ?_))))))))
 refine aH (ak (aM (aN (cu (σ := Value × List Val) (inl ([6] ++ rg 17 9)) (fun ⟨v35, jb⟩ => [(6, v35)]) (fun ⟨v35, jb⟩ w => SH w0 M BE w (hset [(1, .sr (l9 bz) va a), (11, .own eY 3 v22 uM), (13, .sr bz v35 jb)]) ∧ nI Ec zW uM jb = some r) ?_ ?_))))
 rintro ⟨v35, jb⟩ w dR ⟨h, hs⟩
 refine nG (aa (ah (v := v35) rfl) (aa (bM aZ rfl (h.gV 13 rfl)) (aa (ah (v := (I6 0)) rfl) (nN (aN (gD (σ := Nat × Int × Value × List Int) (inl ([5, 9] ++ rg 28 20)) (fun ⟨k45, i46, v43, zZ⟩ => [(5, v43), (28, (I6 i46))]) (fun ⟨k45, i46, v43, zZ⟩ w => SH w0 M BE w (hset [(1, .sr (l9 bz) va a), (11, .own eY 3 v43 zZ), (13, .sr bz v35 jb)]) ∧ i46 = (k45 : Int) ∧ each lD (nH Ec zW jb) (jb.drop k45) zZ = some r) (fun ⟨k45, i46, v43, zZ⟩ => jb.length - k45) ⟨0, 0, v22, uM⟩ ⟨rfl, rfl, trivial⟩ ?_ ?_))))))
 exact ⟨h.cn _, rfl, hs⟩
 rintro ⟨k45, i46, v43, zZ⟩ w dR ⟨h, hik, hs⟩
 refine nG ?_
 refine aa (eO rfl rfl) (nN ?_)
 refine aM (gQ rfl (fun e50 => ?_) (fun e50 => ?_))
 refine aH (ak ?_)
 obtain ⟨yF, e51a, e51b⟩ := fG (hik ▸ e50)
 rw [e51b, dU] at hs
 generalize hnx49 : each lD (nH Ec zW jb) (jb.drop (k45 + 1)) = Om at hs
 have e51r := fJ ((h.gV 13 rfl)).bT hik e50
 refine cu (σ := Value × List Int) (inl ([5, 9] ++ rg 30 17)) (fun ⟨v52, x53⟩ => [(5, v52)]) (fun ⟨v52, x53⟩ w => SH w0 M BE w (hset [(1, .sr (l9 bz) va a), (11, .own eY 3 v52 x53), (13, .sr bz v35 jb)]) ∧ ru Om x53 = some r) ?_ ?_
 rintro ⟨v52, x53⟩ w dR ⟨h, hs⟩
 refine aD (aa (dQ rfl rfl e51r) (aa (ah (v := (I6 ((i46 + 1)))) rfl) (aA (au ?_))))
 subst hnx49
 exact jM ⟨k45 + 1, i46 + 1, v52, x53⟩ ⟨h.cn _, by omega, hs⟩ (by have := oD e50; dsimp only; omega)
 refine aN (nG ?_)
 obtain ⟨b55, o56, cs57, h, r58, i54⟩ := h.xI 13 14 rfl aZ rfl (ig hik) (fI hik e51a)
 obtain rfl := r58
 refine aa (i54 _ _ _ _ _ _ _ _ _ rfl rfl) (aa (jc (k := 0) (vs := [(I6 yF.kind), (I6 yF.n)]) h 14 rfl aY rfl rfl rfl (bD rfl)) (bI h 15 aY fun w b59 h => dK (vs := [(I6 yF.kind), (I6 yF.n)]) h 15 [(I6 yF.kind), (I6 yF.n)] rfl aY rfl rfl rfl rfl rfl (ai rfl (ai rfl aS)) fun w h => nN (cu (σ := Bool) (inl (rg 32 10)) (fun x60 => [(41, (.bool (x60)))]) (fun x60 w => SH w0 M BE w (hset [(1, .sr (l9 bz) va a), (11, .own eY 3 v43 zZ), (13, .sr bz v35 jb), (15, .blk b59 [(I6 yF.kind), (I6 yF.n)])]) ∧ ry zZ yF Om x60 = some r) ?_ ?_)))
 rintro x60 w dR ⟨h, hs⟩
 refine aI hs rfl (fun RV hs => ?_) (fun RV hs => ?_)
 refine aD (aa (ah (v := v43) rfl) (aa (ag fu rfl) (aa (az h 15 rfl aR rfl rfl) (sV (R := eY) (vs := [(I6 yF.n)]) (xs := [yF.n]) h 16 kI rfl rfl rfl ⟨rfl, trivial⟩ rfl fun w u62 h => ?_))))
 obtain ⟨a63, hs⟩ := bG hs
 refine mW (R := eY) (m := [yF.n]) h 11 rfl (h.eT 16 rfl) kI rfl rfl rfl a63.1 a63.2 fun w u64 h => aa (ae (v := u64) rfl) (aA (ax (au ?_)))
 exact bS (u64, (zZ ++ [yF.n])) ⟨h.cn _, hs⟩
 refine aH (ax (au ?_))
 exact bS (v43, zZ) ⟨h.cn _, hs⟩
 refine aD (aa (ag lJ rfl) (aa (az h 15 rfl aR rfl rfl) (aa (bu rfl rfl) (aa (ah (v := (.bool (decide ((yF.kind : Int) = 2)))) rfl) (gT (b := decide ((yF.kind : Int) = 2)) hs (fun Aw hs => ?_) (fun Aw hs => ?_))))))
 refine cz rfl (cB Aw) (aa (ah (v := v43) rfl) (cz rfl (cB Aw) (aa (ag fu rfl) (cz rfl (cB Aw) (aa (az h 15 rfl aR rfl rfl) (cz rfl (cB Aw) ?_))))))
 obtain ⟨N8, e67, hs⟩ := aL hs
 refine aW fnOk92 rfl rfl (EN _ _ h.lt v43 zZ (h.eT 11 rfl) yF.n _ e67) ?_
 rintro _ w ⟨k68, rfl⟩
 refine ⟨_, rfl, ?_⟩
 replace h := h.grow k68
 refine cz rfl (cB Aw) (aa (fw rfl) (aa (bY (b := true) (v := (.bool ((!N8)))) (cB Aw) rfl) (aA (au ?_))))
 exact bS (!N8) ⟨h.cn _, hs⟩
 refine mO rfl (cB Aw) rfl (mO rfl (cB Aw) rfl (mO rfl (cB Aw) rfl (mO rfl (cB Aw) rfl (mO rfl (cB Aw) rfl (aa (bY (b := false) (v := (.bool (false))) (cB Aw) rfl) (aA (au ?_)))))))
 exact bS false ⟨h.cn _, hs⟩
 rw [fH (hik ▸ e50), fO] at hs
 refine jl (bQ (bQ (fq (ax (ak (aD (aa (ah (v := (I6 Ec)) rfl) ?_)))))))
 obtain ⟨a69, hs⟩ := bG hs
 refine aa (dQ rfl rfl a69) (aa (ae (v := (I6 ((Ec + 1)))) rfl) (aA (au ?_)))
 replace h := h.Zh 13 12 rfl
 subst Z9
 exact jM ⟨m301, v43, zZ, v35, jb, (Ec + 1)⟩ ⟨h.cn _, hs⟩
 refine nG (aa (ah (v := (I6 Ec)) rfl) (aa (rH rfl rfl) (nN (aI hs rfl (fun c70 hs => ?_) (fun c70 hs => ?_)))))
 refine aD (aa (ah (v := va) rfl) (aa (ah (v := v22) rfl) (aa (ah (v := (I6 Ec)) rfl) ?_)))
 obtain ⟨x71, XB, hs⟩ := aL hs
 obtain ⟨b74, q75, i73⟩ := h.rO 11 rfl bZ rfl (aC XB).1 (aC XB).2
 refine aa (i73 _ _ _ _ _ _ _ _ _ rfl rfl) ?_
 obtain ⟨cs76, m77, r78⟩ := h.uQ 11 rfl q75 (aC XB).2
 obtain rfl := r78
 refine aa (lh (k := 0) m77 aR rfl rfl) ?_
 obtain ⟨x79, e80, hs⟩ := aL hs
 obtain ⟨b82, o83, cs84, h, r85, i81⟩ := h.xI 1 17 rfl dV rfl (aC e80).1 (aC e80).2
 obtain ⟨u86, rfl, g87⟩ := r85
 replace h := h.dh 18 g87.up
 refine aa (i81 _ _ _ _ _ _ _ _ _ rfl rfl) (aa (fo (k := 0) h 17 rfl jH rfl rfl) (aa (ae (v := u86) rfl) (aA (au ?_))))
 replace h := h.toSr 18 13 rfl
 exact bS (u86, x79) ⟨h.cn _, hs⟩
 refine aH (au ?_)
 replace h := h.Zh 12 13 rfl
 exact bS (v24, x25) ⟨h.cn _, hs⟩
 refine nE (aa (ah (v := v22) rfl) (aa (ae (v := v22) rfl) (nR (bR (v := v22) Tryz.results66 rfl ?_))))
 obtain rfl := fM hs
 exact ⟨h.grown, _, rfl, (h.lQ 11 rfl).1, (h.lQ 11 rfl).2⟩
def jT (X6 : List Val) (zX : List (List Val)) (MM : List (List Val) → Option LX.State) : Option LX.State :=
  iK (Room 16 ([] : List Val) X6) (iK (Room 24 zX [(([] : List Val) ++ X6)]) (MM (zX ++ [(([] : List Val) ++ X6)])))
def lF (Lc : List LX.Frame) (a : LX.State) (zX : List (List Val)) : Option LX.State :=
  some (⟨Lc, zX, a.status, a.aK⟩ : LX.State)
def jU (rJ : LX.Frame) (Lc : List LX.Frame) (nx19 : List LX.Frame → Option LX.State) : Option LX.State :=
  iK (Room 16 ([] : List Val) rJ.regs) (iK (Room 48 Lc [(⟨rJ.proc, rJ.at_, (([] : List Val) ++ rJ.regs), rJ.kD⟩ : LX.Frame)]) (nx19 (Lc ++ [(⟨rJ.proc, rJ.at_, (([] : List Val) ++ rJ.regs), rJ.kD⟩ : LX.Frame)])))
def jV (a : LX.State) (Lc : List LX.Frame) : Option LX.State :=
  each jT (lF Lc a) a.cells []
def lG (a : LX.State) : Option LX.State :=
  each jU (jV a) a.frames []
theorem uh (w0 : World) (M : BS) (hM : ∀ b, M b → b < w0.heap.size) (a : LX.State) (vP wF : Value) (ha0 : gB dL w0 BE M vP a.frames) (ha1 : gB (l9 bz) w0 BE M wF a.cells) (r : LX.State) (hs : lG a = some r) :
    Calls Tryz.prog 69 #[(.agg #[vP, wF, (I6 a.status), (I6 a.aK)])] w0 (fun e w' => Grow w0 w' ∧ ∃ uN, ∃ wR, ∃ BU, ∃ Ht, e = .returned (.agg #[uN, wR, .int .i64 r.status, .int .i64 r.aK]) ∧ Chunk.holds w' M (Chunk.own' ((cU uN wR r.frames BU r.cells Ht) : Chunk)) ((cU uN wR r.frames BU r.cells Ht) : Chunk) ∧ (∀ b, Chunk.own' ((cU uN wR r.frames BU r.cells Ht) : Chunk) b → w0.heap.size ≤ b)) := by
 refine aQ (args := [(.agg #[vP, wF, (I6 a.status), (I6 a.aK)])]) Tryz.func69 rfl Tryz.ntmps69 (bD rfl) ?_
 have h := SH.init hM
 replace h := h.fE 1 ha0 bA
 replace h := h.fE 2 ha1 (bN bA)
 refine nG (kM (cs := [vP, wF, (I6 a.status), (I6 a.aK)]) h 3 rfl rfl fun w b1 h => bI h 4 bC fun w b2 h => nJ (aa (ae (v := (.slice none 0 0)) rfl) (nK (aa (ag dP rfl) (aa (az h 3 rfl gL rfl rfl) (aa (bM bV rfl (h.gV 1 rfl)) (aa (ah (v := (I6 0)) rfl) (nN (aN ?_)))))))))
 replace h := h.yH (R := bB.raw) (E := 49) 11
 replace h := h.Qb (R := bz) (Es := 51) 12
 refine gD (σ := Nat × Int × Value × List Value × List LX.Frame) (inl ([3, 5] ++ rg 12 14)) (fun ⟨k15, i16, v12, LH, Lc⟩ => [(3, v12), (12, (I6 i16))]) (fun ⟨k15, i16, v12, LH, Lc⟩ w => SH w0 M BE w (hset [(1, .sr dL vP a.frames), (2, .sr (l9 bz) wF a.cells), (3, .blk b1 [vP, wF, (I6 a.status), (I6 a.aK)]), (4, .blk b2 [(.slice none 0 0), (.slice none 0 0), (I6 0), (I6 0)]), (11, .own bB.raw 49 v12 (List.zip Lc LH)), (12, .iJ (ek bz 51 hn LH (List.map bB.sub Lc)))]) ∧ i16 = (k15 : Int) ∧ each jU (jV a) (a.frames.drop k15) Lc = some r) (fun ⟨k15, i16, v12, LH, Lc⟩ => a.frames.length - k15) ⟨0, 0, (.slice none 0 0), ([] : List Value), []⟩ ⟨rfl, rfl, trivial⟩ ?_ ?_
 exact ⟨h.cn _, rfl, hs⟩
 rintro ⟨k15, i16, v12, LH, Lc⟩ w dR ⟨h, hik, hs⟩
 refine nG ?_
 refine aa (eO rfl rfl) (nN ?_)
 refine aM (gQ rfl (fun e20 => ?_) (fun e20 => ?_))
 refine aH (ak ?_)
 obtain ⟨rJ, e21a, e21b⟩ := fG (hik ▸ e20)
 rw [e21b, dU] at hs
 generalize hnx19 : each jU (jV a) (a.frames.drop (k15 + 1)) = nx19 at hs
 have e21r := fJ ((h.gV 1 rfl)).bT hik e20
 refine aM (aN (nG ?_))
 obtain ⟨Gd, o24, cs25, h, r26, i22⟩ := h.xI 1 13 rfl bV rfl (ig hik) (fI hik e21a)
 obtain ⟨u27, rfl, g28⟩ := oQ r26
 replace h := h.dh 14 g28.up
 refine aa (i22 _ _ _ _ _ _ _ _ _ rfl rfl) (aa (jc (k := 0) (vs := [(I6 rJ.proc), (I6 rJ.at_), u27, (I6 rJ.kD)]) h 13 rfl gz rfl rfl rfl (bD rfl)) (bI h 15 gz fun w b29 h => dK (vs := [(I6 rJ.proc), (I6 rJ.at_), u27, (I6 rJ.kD)]) h 15 [(I6 rJ.proc), (I6 rJ.at_), u27, (I6 rJ.kD)] rfl gz rfl rfl rfl rfl rfl (ai rfl (ai rfl (ai (h.iN 14 rfl).one (ai rfl aS)))) fun w h => nJ (sV (R := bz) (vs := []) (xs := ([] : List Val)) h 16 lC rfl rfl rfl trivial rfl fun w u30 h => aa (ag jJ rfl) (aa (az h 15 rfl jH rfl rfl) ?_))))
 obtain ⟨a31, hs⟩ := bG hs
 refine mW (R := bz) (m := rJ.regs) h 16 rfl (h.kL 14 rfl) lC rfl rfl rfl a31.1 a31.2 fun w u32 h => aa (ag jJ rfl) (gP h 15 [(I6 rJ.proc), (I6 rJ.at_), u32, (I6 rJ.kD)] rfl jH rfl rfl rfl rfl (h.dD 16 rfl).one fun w h => nN (aD (aa (ah (v := v12) rfl) (aa (bU (vs := [(I6 rJ.proc), (I6 rJ.at_), u32, (I6 rJ.kD)]) h 15 rfl gz rfl rfl rfl) ?_))))
 have u33o : (Value.oneCell' u32) = true := (h.dD 16 rfl).one
 refine sV (R := bB.raw) (vs := [(.agg #[(I6 rJ.proc), (I6 rJ.at_), u32, (I6 rJ.kD)])]) (xs := List.zip [(⟨rJ.proc, rJ.at_, (([] : List Val) ++ rJ.regs), rJ.kD⟩ : LX.Frame)] [u32]) h 17 kH rfl rfl rfl ⟨⟨rfl, u33o⟩, trivial⟩ rfl fun w u33 h => ?_
 replace h := h.qh (N := bB) 16 (⟨rJ.proc, rJ.at_, (([] : List Val) ++ rJ.regs), rJ.kD⟩ : LX.Frame) rfl rfl
 obtain ⟨a34, hs⟩ := bG hs
 have z36 := h.gm 12 rfl
 have z36b := h.gm 16 rfl
 refine mW (R := bB.raw) (m := List.zip [(⟨rJ.proc, rJ.at_, (([] : List Val) ++ rJ.regs), rJ.kD⟩ : LX.Frame)] [u32]) h 11 rfl (h.eT 17 rfl) kH rfl rfl rfl (by rw [cZ z36, cZ z36b]; exact a34.1) (by rw [cZ z36, cZ z36b]; exact a34.2) fun w u35 h => ?_
 replace h := (h.qf 12 16 rfl rfl (by decide)).fV 17
 rw [qg z36, ← List.map_append] at h
 obtain ⟨us37, us37e⟩ : ∃ z, z = LH ++ [u32] := ⟨_, rfl⟩
 rw [← us37e] at h
 refine aa (ae (v := u35) rfl) (aA (ax (ak (aD (aa (dQ rfl rfl e21r) (aa (ah (v := (I6 ((i16 + 1)))) rfl) (aA (au ?_))))))))
 subst hnx19
 exact jM ⟨k15 + 1, i16 + 1, u35, us37, (Lc ++ [(⟨rJ.proc, rJ.at_, (([] : List Val) ++ rJ.regs), rJ.kD⟩ : LX.Frame)])⟩ ⟨h.cn _, by omega, hs⟩ (by have := oD e20; dsimp only; omega)
 rw [fH (hik ▸ e20), fO] at hs
 refine nE (aa (ae (v := (.slice none 0 0)) rfl) (nK (aa (ag gJ rfl) (aa (az h 3 rfl jQ rfl rfl) (aa (bM dV rfl (h.gV 2 rfl)) (aa (ah (v := (I6 0)) rfl) (nN (aN ?_))))))))
 replace h := h.yH (R := (eD Val).raw) (E := 47) 24
 replace h := h.Qb (R := bz) (Es := 51) 25
 refine gD (σ := Nat × Int × Value × List Value × List (List Val)) (inl ([6, 8] ++ rg 29 11)) (fun ⟨V5, i51, v47, Sv, zX⟩ => [(6, v47), (29, (I6 i51))]) (fun ⟨V5, i51, v47, Sv, zX⟩ w => SH w0 M BE w (hset [(1, .sr dL vP a.frames), (2, .sr (l9 bz) wF a.cells), (3, .blk b1 [vP, wF, (I6 a.status), (I6 a.aK)]), (4, .blk b2 [(.slice none 0 0), (.slice none 0 0), (I6 0), (I6 0)]), (11, .own bB.raw 49 v12 (List.zip Lc LH)), (12, .iJ (ek bz 51 hn LH (List.map bB.sub Lc))), (24, .own (eD Val).raw 47 v47 (List.zip zX Sv)), (25, .iJ (ek bz 51 hn Sv (List.map (eD Val).sub zX)))]) ∧ i51 = (V5 : Int) ∧ each jT (lF Lc a) (a.cells.drop V5) zX = some r) (fun ⟨V5, i51, v47, Sv, zX⟩ => a.cells.length - V5) ⟨0, 0, (.slice none 0 0), ([] : List Value), []⟩ ⟨rfl, rfl, trivial⟩ ?_ ?_
 exact ⟨h.cn _, rfl, hs⟩
 rintro ⟨V5, i51, v47, Sv, zX⟩ w dR ⟨h, hik, hs⟩
 refine nG ?_
 refine aa (eO rfl rfl) (nN ?_)
 refine aM (gQ rfl (fun e55 => ?_) (fun e55 => ?_))
 refine aH (ak ?_)
 obtain ⟨X6, e56a, e56b⟩ := fG (hik ▸ e55)
 rw [e56b, dU] at hs
 generalize hnx54 : each jT (lF Lc a) (a.cells.drop (V5 + 1)) = MM at hs
 have e56r := fJ ((h.gV 2 rfl)).bT hik e55
 refine aM (aN (nG ?_))
 obtain ⟨b58, o59, cs60, h, r61, i57⟩ := h.xI 2 26 rfl dV rfl (ig hik) (fI hik e56a)
 obtain ⟨u62, rfl, g63⟩ := r61
 replace h := h.dh 27 g63.up
 refine aa (i57 _ _ _ _ _ _ _ _ _ rfl rfl) (aa (fo (k := 0) h 26 rfl jH rfl rfl) (aa (ae (v := u62) rfl) (nN (aD (aa (ah (v := v47) rfl) (sV (R := bz) (vs := []) (xs := ([] : List Val)) h 28 lC rfl rfl rfl trivial rfl fun w u64 h => aa (ah (v := u62) rfl) ?_))))))
 obtain ⟨a65, hs⟩ := bG hs
 refine mW (R := bz) (m := X6) h 28 rfl (h.kL 27 rfl) lC rfl rfl rfl a65.1 a65.2 fun w u66 h => ?_
 have u67o : (Value.oneCell' u66) = true := (h.dD 28 rfl).one
 refine sV (R := (eD Val).raw) (vs := [u66]) (xs := List.zip [(([] : List Val) ++ X6)] [u66]) h 29 lv rfl rfl rfl ⟨⟨gH u67o, u67o⟩, trivial⟩ rfl fun w u67 h => ?_
 replace h := h.qh (N := (eD Val)) 28 (([] : List Val) ++ X6) rfl rfl
 obtain ⟨a68, hs⟩ := bG hs
 have z70 := h.gm 25 rfl
 have z70b := h.gm 28 rfl
 refine mW (R := (eD Val).raw) (m := List.zip [(([] : List Val) ++ X6)] [u66]) h 24 rfl (h.eT 29 rfl) lv rfl rfl rfl (by rw [cZ z70, cZ z70b]; exact a68.1) (by rw [cZ z70, cZ z70b]; exact a68.2) fun w u69 h => ?_
 replace h := (h.qf 25 28 rfl rfl (by decide)).fV 29
 rw [qg z70, ← List.map_append] at h
 obtain ⟨us71, us71e⟩ : ∃ z, z = Sv ++ [u66] := ⟨_, rfl⟩
 rw [← us71e] at h
 refine aa (ae (v := u69) rfl) (aA (ax (ak (aD (aa (dQ rfl rfl e56r) (aa (ah (v := (I6 ((i51 + 1)))) rfl) (aA (au ?_))))))))
 subst hnx54
 exact jM ⟨V5 + 1, i51 + 1, u69, us71, (zX ++ [(([] : List Val) ++ X6)])⟩ ⟨h.cn _, by omega, hs⟩ (by have := oD e55; dsimp only; omega)
 rw [fH (hik ▸ e55), fO] at hs
 refine nE (aa (ah (v := v12) rfl) (aa (ah (v := v47) rfl) (aa (ag dP rfl) (gP h 3 [v12, wF, (I6 a.status), (I6 a.aK)] rfl gL rfl rfl rfl rfl (h.dD 11 rfl).one fun w h => aa (ag gJ rfl) (gP h 3 [v12, v47, (I6 a.status), (I6 a.aK)] rfl jQ rfl rfl rfl rfl (h.dD 24 rfl).one fun w h => nJ (aa (bU (vs := [v12, v47, (I6 a.status), (I6 a.aK)]) h 3 rfl bC rfl rfl rfl) (dK (vs := [v12, v47, (I6 a.status), (I6 a.aK)]) h 4 [v12, v47, (I6 a.status), (I6 a.aK)] rfl bC rfl rfl rfl rfl rfl (ai (h.dD 11 rfl).one (ai (h.dD 24 rfl).one (ai rfl (ai rfl aS)))) fun w h => nR (OL (vs := [v12, v47, (I6 a.status), (I6 a.aK)]) Tryz.results69 rfl h 4 rfl bC rfl ?_))))))))
 replace h := h.pair 11 12 (by decide)
 replace h := h.pair 11 24 (by decide)
 replace h := h.pair 11 25 (by decide)
 obtain rfl := fM hs
 obtain ⟨o1, o2, o3⟩ := h.lu 11 (C := (cU v12 v47 Lc LH zX Sv)) rfl ⟨⟨⟨trivial, trivial⟩, trivial⟩, trivial⟩
 exact ⟨o2, v12, v47, LH, Sv, rfl, o1, IX o3⟩
def nV (a : Val) (y3 : Int) : Option Val :=
  some (⟨a.kind, y3⟩ : Val)
def rz (a : Val) (z0 : List Int) : Option Val :=
  bif decide ((a.kind : Int) = 2) then (slices_Index_int z0 a.n).bind fun y5 => nV a y5 else nV a a.n
theorem Ew (w0 : World) (M : BS) (hM : ∀ b, M b → b < w0.heap.size) (a : Val) (vz0 : Value) (z0 : List Int) (hvz0 : gB eY w0 BE M vz0 z0) (q0 : Nat) (hq0 : ∃ E, w0.heap[q0]? = some (.cells #[vz0] E (0, 0))) (r : Val) (hs : rz a z0 = some r) :
    Calls Tryz.prog 67 #[(.agg #[(I6 a.kind), (I6 a.n)]), (.pointer (some ⟨q0, 0, none⟩))] w0 (fun e w' => Grow w0 w' ∧ e = .returned (.agg #[.int .i64 r.kind, .int .i64 r.n])) := by
 refine aQ (args := [(.agg #[(I6 a.kind), (I6 a.n)]), (.pointer (some ⟨q0, 0, none⟩))]) Tryz.func67 rfl Tryz.ntmps67 (bD rfl) ?_
 have h := SH.init hM
 replace h := h.fE 1 hvz0 bA
 replace h := h.Mk 2 (cs := [vz0]) hq0 (bN bA)
 refine nG (kM (cs := [(I6 a.kind), (I6 a.n)]) h 3 rfl rfl fun w b1 h => bI h 4 aY fun w b2 h => nN (cu (σ := Int) (inl (rg 4 8)) (fun y3 => []) (fun y3 w => SH w0 M BE w (hset [(3, .blk b1 [(I6 a.kind), (I6 y3)]), (4, .blk b2 [(I6 0), (I6 0)])]) ∧ nV a y3 = some r) ?_ ?_))
 rintro y3 w dR ⟨h, hs⟩
 refine nG (aa (bU (vs := [(I6 a.kind), (I6 y3)]) h 3 rfl aY rfl rfl rfl) (dK (vs := [(I6 a.kind), (I6 y3)]) h 4 [(I6 a.kind), (I6 y3)] rfl aY rfl rfl rfl rfl rfl (ai rfl (ai rfl aS)) fun w h => nR (OL (vs := [(I6 a.kind), (I6 y3)]) Tryz.results67 rfl h 4 rfl aY rfl ?_)))
 obtain rfl := fM hs
 exact ⟨h.grown, rfl⟩
 refine nG (aa (ag lJ rfl) (aa (az h 3 rfl aR rfl rfl) (aa (bu rfl rfl) (nN (aI hs rfl (fun c4 hs => ?_) (fun c4 hs => ?_))))))
 refine aD (aa (fo (k := 0) h 2 rfl qU rfl rfl) (aa (ag fu rfl) (aa (az h 3 rfl aR rfl rfl) ?_)))
 obtain ⟨y5, e6, hs⟩ := aL hs
 refine aW Ub rfl rfl (wW _ _ h.lt vz0 z0 (h.gV 1 rfl) a.n _ e6) ?_
 rintro _ w ⟨k7, rfl⟩
 refine ⟨_, rfl, ?_⟩
 replace h := h.grow k7
 refine aa (ag fu rfl) (gP h 3 [(I6 a.kind), (I6 y5)] rfl aR rfl rfl rfl rfl rfl fun w h => aA (au ?_))
 exact bS y5 ⟨h.cn _, hs⟩
 refine aH (au ?_)
 exact bS a.n ⟨h.cn _, hs⟩
def mG (y28 : List Int) (i71 : Int) (x69 : List Val) (nx74 : List Val → Option LX.State) : Option LX.State :=
  (idx x69 i71).bind fun Q9 => (rz Q9 y28).bind fun DF => nx74 (x69.set (i71).toNat DF)
def qp (X7 : List LX.Frame → Option LX.State) (qj : List LX.Frame) (i50 : Int) (Q8 : LX.Frame) (x69 : List Val) : Option LX.State :=
  X7 (qj.set (i50).toNat ({ Q8 with regs := x69 }))
def oH (zR : List Val) (sj : Val) (Pn : List Val → Option LX.State) (y151 : Int) : Option LX.State :=
  iK (Room 16 zR [(⟨sj.kind, y151⟩ : Val)]) (Pn (zR ++ [(⟨sj.kind, y151⟩ : Val)]))
def jA (y28 : List Int) (sj : Val) (zR : List Val) (Pn : List Val → Option LX.State) : Option LX.State :=
  bif decide ((sj.kind : Int) = 2) then (slices_Index_int y28 sj.n).bind fun y156 => oH zR sj Pn y156 else oH zR sj Pn sj.n
def oI (wP : List (List Val)) (Po : List (List Val) → Option LX.State) (zR : List Val) : Option LX.State :=
  iK (Room 24 wP [zR]) (Po (wP ++ [zR]))
def jB (y28 : List Int) (a : LX.State) (i105 : Int) (wP : List (List Val)) (Po : List (List Val) → Option LX.State) : Option LX.State :=
  (idx y28 i105).bind fun Lx => (idx a.cells Lx).bind fun Bw => each (jA y28) (oI wP Po) Bw []
def l6 (qj : List LX.Frame) (fQ : LX.State) (wP : List (List Val)) : Option LX.State :=
  some (⟨qj, wP, fQ.status, fQ.aK⟩ : LX.State)
def l7 (y28 : List Int) (i50 : Int) (qj : List LX.Frame) (X7 : List LX.Frame → Option LX.State) : Option LX.State :=
  (idx qj i50).bind fun Q8 => upto (mG y28) (qp X7 qj i50 Q8) 0 ((Q8.regs.length : Int)).toNat Q8.regs
def oJ (y28 : List Int) (a : LX.State) (fQ : LX.State) (qj : List LX.Frame) : Option LX.State :=
  upto (jB y28 a) (l6 qj fQ) 0 ((y28.length : Int)).toNat []
def kG (AB : LX.Frame) (Al : List Val) (nx15 : List Val → Option LX.State) : Option LX.State :=
  iK (Room 16 Al AB.regs) (nx15 (Al ++ AB.regs))
def oK (N : Nat) (a : LX.State) (Al : List Val) : Option LX.State :=
  (wM N a.cells Al).bind fun y28 => (lG a).bind fun fQ => upto (l7 y28) (oJ y28 a fQ) 0 ((fQ.frames.length : Int)).toNat fQ.frames
def rA (N : Nat) (a : LX.State) : Option LX.State :=
  each kG (oK N a) a.frames []
theorem Ap (N : Nat) (w0 : World) (M : BS) (hM : ∀ b, M b → b < w0.heap.size) (a : LX.State) (vP wF : Value) (ha0 : gB dL w0 BE M vP a.frames) (ha1 : gB (l9 bz) w0 BE M wF a.cells) (r : LX.State) (hs : rA N a = some r) :
    Calls Tryz.prog 31 #[(.agg #[vP, wF, (I6 a.status), (I6 a.aK)])] w0 (fun e w' => Grow w0 w' ∧ ∃ uN, ∃ wR, ∃ BU, ∃ Ht, e = .returned (.agg #[uN, wR, .int .i64 r.status, .int .i64 r.aK]) ∧ Chunk.holds w' M (Chunk.own' ((cU uN wR r.frames BU r.cells Ht) : Chunk)) ((cU uN wR r.frames BU r.cells Ht) : Chunk) ∧ (∀ b, Chunk.own' ((cU uN wR r.frames BU r.cells Ht) : Chunk) b → w0.heap.size ≤ b)) := by
 refine aQ (args := [(.agg #[vP, wF, (I6 a.status), (I6 a.aK)])]) Tryz.func31 rfl Tryz.ntmps31 (bD rfl) ?_
 have h := SH.init hM
 replace h := h.fE 1 ha0 bA
 replace h := h.fE 2 ha1 (bN bA)
 refine nG (kM (cs := [vP, wF, (I6 a.status), (I6 a.aK)]) h 3 rfl rfl fun w b1 h => bI h 4 bC fun w b2 h => nJ (aa (ae (v := (.slice none 0 0)) rfl) (nK (aa (ag dP rfl) (aa (az h 3 rfl gL rfl rfl) (aa (bM bV rfl (h.gV 1 rfl)) (aa (ah (v := (I6 0)) rfl) (nN (aN ?_)))))))))
 replace h := h.yH (R := bz) (E := 51) 8
 refine gD (σ := Nat × Int × Value × List Val) (inl ([3, 5] ++ rg 20 9)) (fun ⟨k11, i12, v9, Al⟩ => [(3, v9), (20, (I6 i12))]) (fun ⟨k11, i12, v9, Al⟩ w => SH w0 M BE w (hset [(1, .sr dL vP a.frames), (2, .sr (l9 bz) wF a.cells), (3, .blk b1 [vP, wF, (I6 a.status), (I6 a.aK)]), (4, .blk b2 [(.slice none 0 0), (.slice none 0 0), (I6 0), (I6 0)]), (8, .own bz 51 v9 Al)]) ∧ i12 = (k11 : Int) ∧ each kG (oK N a) (a.frames.drop k11) Al = some r) (fun ⟨k11, i12, v9, Al⟩ => a.frames.length - k11) ⟨0, 0, (.slice none 0 0), []⟩ ⟨rfl, rfl, trivial⟩ ?_ ?_
 exact ⟨h.cn _, rfl, hs⟩
 rintro ⟨k11, i12, v9, Al⟩ w dR ⟨h, hik, hs⟩
 refine nG ?_
 refine aa (eO rfl rfl) (nN ?_)
 refine aM (gQ rfl (fun e16 => ?_) (fun e16 => ?_))
 refine aH (ak ?_)
 obtain ⟨AB, e17a, e17b⟩ := fG (hik ▸ e16)
 rw [e17b, dU] at hs
 generalize hnx15 : each kG (oK N a) (a.frames.drop (k11 + 1)) = nx15 at hs
 have e17r := fJ ((h.gV 1 rfl)).bT hik e16
 refine aM (aN (nG ?_))
 obtain ⟨b19, o20, cs21, h, r22, i18⟩ := h.xI 1 9 rfl bV rfl (ig hik) (fI hik e17a)
 obtain ⟨u23, rfl, g24⟩ := oQ r22
 replace h := h.dh 10 g24.up
 refine aa (i18 _ _ _ _ _ _ _ _ _ rfl rfl) (aa (jc (k := 0) (vs := [(I6 AB.proc), (I6 AB.at_), u23, (I6 AB.kD)]) h 9 rfl gz rfl rfl rfl (bD rfl)) (bI h 11 gz fun w b25 h => dK (vs := [(I6 AB.proc), (I6 AB.at_), u23, (I6 AB.kD)]) h 11 [(I6 AB.proc), (I6 AB.at_), u23, (I6 AB.kD)] rfl gz rfl rfl rfl rfl rfl (ai rfl (ai rfl (ai (h.iN 10 rfl).one (ai rfl aS)))) fun w h => nN (aD (aa (ah (v := v9) rfl) (aa (ag jJ rfl) (aa (az h 11 rfl jH rfl rfl) ?_))))))
 obtain ⟨a26, hs⟩ := bG hs
 refine mW (R := bz) (m := AB.regs) h 8 rfl (h.kL 10 rfl) lC rfl rfl rfl a26.1 a26.2 fun w u27 h => aa (ae (v := u27) rfl) (aA (ax (ak (aD (aa (dQ rfl rfl e17r) (aa (ah (v := (I6 ((i12 + 1)))) rfl) (aA (au ?_))))))))
 subst hnx15
 exact jM ⟨k11 + 1, i12 + 1, u27, (Al ++ AB.regs)⟩ ⟨h.cn _, by omega, hs⟩ (by have := oD e16; dsimp only; omega)
 rw [fH (hik ▸ e16), fO] at hs
 refine nE (aa (ag gJ rfl) (aa (az h 3 rfl jQ rfl rfl) (aa (ah (v := v9) rfl) ?_)))
 obtain ⟨y28, e29, hs⟩ := aL hs
 refine aW fnOk66 rfl rfl (Jl N _ _ h.lt wF a.cells (h.gV 2 rfl) v9 Al (h.eT 8 rfl) _ e29) ?_
 rintro _ w ⟨Y1, u30, rfl, g31, g32⟩
 refine ⟨_, rfl, ?_⟩
 replace h := h.nz 12 Y1 g31 g32
 refine uj h 13 qU fun w G9 h => gP h 13 [u30] rfl qU rfl rfl rfl rfl (h.dD 12 rfl).one fun w h => nJ (aa (sU (c1 := []) (c2 := [(.pointer (some ⟨G9, 0, none⟩))]) rfl rfl) (aa (ae (v := (.func (.func 67) #[] #[(.pointer (some ⟨G9, 0, none⟩))])) rfl) (nJ (aa (bU (vs := [vP, wF, (I6 a.status), (I6 a.aK)]) h 3 rfl bC rfl rfl rfl) ?_))))
 obtain ⟨fQ, e36, hs⟩ := aL hs
 refine aW Uc rfl rfl (uh _ _ h.lt a vP wF (h.gV 1 rfl) (h.gV 2 rfl) _ e36) ?_
 rintro _ w ⟨k43, u37, Q7, Bj, J8, rfl, h41, h42⟩
 refine ⟨_, rfl, ?_⟩
 replace h := h.Mx 14 (C := (cU u37 Q7 fQ.frames Bj fQ.cells J8)) k43 ⟨⟨⟨trivial, trivial⟩, trivial⟩, trivial⟩ h41 h42
 replace h := h.cK 14 17 (by decide) rfl rfl
 replace h := h.cK 14 16 (by decide) rfl rfl
 replace h := h.cK 14 15 (by decide) rfl rfl
 refine bI h 18 bC fun w QK h => dK (vs := [u37, Q7, (I6 fQ.status), (I6 fQ.aK)]) h 18 [u37, Q7, (I6 fQ.status), (I6 fQ.aK)] rfl bC rfl rfl rfl rfl rfl (ai (h.dD 14 rfl).one (ai (h.dD 16 rfl).one (ai rfl (ai rfl aS)))) fun w h => nK (aa (ag dP rfl) (aa (az h 18 rfl gL rfl rfl) (aa (nA (N := bB) bV rfl (h.eT 14 rfl) (h.gm 15 rfl)) (aa (ah (v := (I6 0)) rfl) (nN (aN ?_))))))
 have hli50 := Qf (h.eT 14 rfl) (h.gm 15 rfl)
 refine gD (σ := Nat × Int × List LX.Frame) (inl ([9, 10, 11] ++ rg 39 28)) (fun ⟨k49, i50, qj⟩ => [(39, (I6 i50))]) (fun ⟨k49, i50, qj⟩ w => SH w0 M BE w (hset [(1, .sr dL vP a.frames), (2, .sr (l9 bz) wF a.cells), (3, .blk b1 [vP, wF, (I6 a.status), (I6 a.aK)]), (4, .blk b2 [(.slice none 0 0), (.slice none 0 0), (I6 0), (I6 0)]), (12, .own eY 3 u30 y28), (13, .blk G9 [u30]), (14, .own bB.raw 49 u37 (List.zip qj Bj)), (15, .iJ (ek bz 51 hn Bj (List.map bB.sub qj))), (16, .own (eD Val).raw 47 Q7 (List.zip fQ.cells J8)), (17, .iJ (ek bz 51 hn J8 (List.map (eD Val).sub fQ.cells))), (18, .blk QK [u37, Q7, (I6 fQ.status), (I6 fQ.aK)])]) ∧ i50 = (k49 : Int) ∧ upto (l7 y28) (oJ y28 a fQ) i50 (((fQ.frames.length : Int)).toNat - k49) qj = some r) (fun ⟨k49, i50, qj⟩ => ((fQ.frames.length : Int)).toNat - k49) ⟨0, 0, fQ.frames⟩ ⟨rfl, trivial⟩ ?_ ?_
 exact ⟨h.cn _, rfl, hs⟩
 rintro ⟨k49, i50, qj⟩ w dR ⟨h, hik, hs⟩
 refine nG ?_
 refine aa (eO rfl rfl) (nN ?_)
 refine aM (gQ rfl (fun e54 => ?_) (fun e54 => ?_))
 refine aH (ak ?_)
 rw [sW (by have := oD e54; omega)] at hs
 generalize hnx53 : upto (l7 y28) (oJ y28 a fQ) (i50 + 1) (((fQ.frames.length : Int)).toNat - (k49 + 1)) = X7 at hs
 have e55r : kJ (i50 + 1) := (by have := oD e54; have := hli50; exact kJ.mk (by omega) (by omega))
 refine aM (aN (nG (aa (ah (v := (I6 i50)) rfl) (aa (ae (v := (I6 i50)) rfl) (nJ (aa (ag dP rfl) (aa (az h 18 rfl gL rfl rfl) (aa (ah (v := (I6 i50)) rfl) ?_))))))))
 obtain ⟨Q8, e57, hs⟩ := aL hs
 obtain ⟨u61, e62, h⟩ := h.mq 15 19 Q8.regs rfl rfl (by decide) (aC e57).2 rfl
 obtain ⟨b59, q60, i58⟩ := h.rO 14 rfl bV rfl (aC e57).1 (eU (aC e57).2 e62)
 refine aa (i58 _ _ _ _ _ _ _ _ _ rfl rfl) (aa (ag jJ rfl) ?_)
 obtain ⟨cs63, m64, r65⟩ := h.uQ 14 rfl q60 (eU (aC e57).2 e62)
 obtain ⟨rfl, -⟩ := r65
 refine aa (lh (k := 2) m64 jH rfl rfl) (aa (bM aZ rfl (h.eT 19 rfl)) (aa (ah (v := (I6 0)) rfl) (nN (aN ?_))))
 have hli71 := (h.eT 19 rfl).bT
 refine gD (σ := Nat × Int × List Val) (inl ([10, 11] ++ rg 49 17)) (fun ⟨k70, i71, x69⟩ => [(49, (I6 i71))]) (fun ⟨k70, i71, x69⟩ w => SH w0 M BE w (hset [(1, .sr dL vP a.frames), (2, .sr (l9 bz) wF a.cells), (3, .blk b1 [vP, wF, (I6 a.status), (I6 a.aK)]), (4, .blk b2 [(.slice none 0 0), (.slice none 0 0), (I6 0), (I6 0)]), (12, .own eY 3 u30 y28), (13, .blk G9 [u30]), (14, .own bB.raw 49 u37 (List.zip qj Bj)), (15, .iJ (ek bz 51 (hat (i50).toNat) Bj (List.map bB.sub qj))), (16, .own (eD Val).raw 47 Q7 (List.zip fQ.cells J8)), (17, .iJ (ek bz 51 hn J8 (List.map (eD Val).sub fQ.cells))), (18, .blk QK [u37, Q7, (I6 fQ.status), (I6 fQ.aK)]), (19, .own bz 51 u61 x69)]) ∧ i71 = (k70 : Int) ∧ upto (mG y28) (qp X7 qj i50 Q8) i71 (((Q8.regs.length : Int)).toNat - k70) x69 = some r) (fun ⟨k70, i71, x69⟩ => ((Q8.regs.length : Int)).toNat - k70) ⟨0, 0, Q8.regs⟩ ⟨rfl, trivial⟩ ?_ ?_
 exact ⟨h.cn _, rfl, hs⟩
 rintro ⟨k70, i71, x69⟩ w dR ⟨h, hik, hs⟩
 refine nG ?_
 refine aa (eO rfl rfl) (nN ?_)
 refine aM (gQ rfl (fun XG => ?_) (fun XG => ?_))
 refine aH (ak ?_)
 rw [sW (by have := oD XG; omega)] at hs
 generalize hnx74 : upto (mG y28) (qp X7 qj i50 Q8) (i71 + 1) (((Q8.regs.length : Int)).toNat - (k70 + 1)) = nx74 at hs
 have e76r : kJ (i71 + 1) := (by have := oD XG; have := hli71; exact kJ.mk (by omega) (by omega))
 refine aM (aN (nG (aa (ah (v := (I6 i71)) rfl) ?_)))
 obtain ⟨Q9, e78, hs⟩ := aL hs
 obtain ⟨b80, q81, i79⟩ := h.rO 19 rfl aZ rfl (aC e78).1 (aC e78).2
 refine aa (i79 _ _ _ _ _ _ _ _ _ rfl rfl) ?_
 obtain ⟨cs82, m83, r84⟩ := h.uQ 19 rfl q81 (aC e78).2
 obtain rfl := r84
 refine aa (kS (k := 0) (vs := [(I6 Q9.kind), (I6 Q9.n)]) m83 aY rfl rfl rfl (bD rfl)) (bI h 20 aY fun w MN h => aa (ae (v := (I6 i71)) rfl) (dK (vs := [(I6 Q9.kind), (I6 Q9.n)]) h 20 [(I6 Q9.kind), (I6 Q9.n)] rfl aY rfl rfl rfl rfl rfl (ai rfl (ai rfl aS)) fun w h => nN (lq (L := (ob u61)) mixed h fun w h => bH 0 (aP.refl _ _) rfl aj (by kernel_rfl) (by kernel_rfl) (by kernel_rfl) (fun w hk => ag dP rfl) (bH 1 (aP.refl _ _) rfl aj (by kernel_rfl) (by kernel_rfl) (by kernel_rfl) (fun w hk => have h := h.qR 19 rfl hk; az h 18 rfl gL rfl rfl) (bH 2 (aP.refl _ _) rfl aj (by kernel_rfl) (by kernel_rfl) (by kernel_rfl) (fun w hk => ah (v := (I6 i50)) rfl) ?_)))))
 obtain ⟨bq89x3_2, Sw, iq89x3_1⟩ := h.rO 14 rfl bV rfl (aC e57).1 (eU (aC e57).2 e62)
 refine bH 3 (aP.refl _ _) rfl aj (by kernel_rfl) (by kernel_rfl) (by kernel_rfl) (fun w hk => iq89x3_1 _ _ _ _ _ _ _ _ _ rfl rfl) (bH 4 (aP.refl _ _) rfl aj (by kernel_rfl) (by kernel_rfl) (by kernel_rfl) (fun w hk => ag jJ rfl) ?_)
 obtain ⟨csq89x5_1, mq89x5_2, rq89x5_3⟩ := h.uQ 14 rfl Sw (eU (aC e57).2 e62)
 obtain ⟨rfl, -⟩ := rq89x5_3
 have nq89x5_4 : ¬ (ob u61 _) := (h.apart 14 19 (by decide) _ Sw)
 refine bH 5 (aP.refl _ _) rfl aj (by kernel_rfl) (by kernel_rfl) (by kernel_rfl) (fun w hk => have h := h.qR 19 rfl hk; lh (k := 2) (mq89x5_2.hold hk nq89x5_4) jH rfl rfl) (bH 6 (aP.refl _ _) rfl aj (by kernel_rfl) (by kernel_rfl) (by kernel_rfl) (fun w hk => ah (v := (I6 i71)) rfl) (bH 7 (aP.refl _ _) rfl aj (by kernel_rfl) (by kernel_rfl) (by kernel_rfl) (fun w hk => ah (v := (.func (.func 67) #[] #[(.pointer (some ⟨G9, 0, none⟩))])) rfl) (bH 8 (aP.refl _ _) rfl aj (by kernel_rfl) (by kernel_rfl) (by kernel_rfl) (fun w hk => have h := h.qR 19 rfl hk; bU (vs := [(I6 Q9.kind), (I6 Q9.n)]) h 20 rfl aY rfl rfl rfl) ?_)))
 obtain ⟨ws90, ws90e⟩ : ∃ x, x = w := ⟨_, rfl⟩
 have U2 : aP (ob u61) ws90 w := ws90e ▸ aP.refl (ob u61) w
 refine rU ws90e.symm (bE 9 (by kernel_rfl) rfl aj ?_)
 obtain ⟨DF, eq89x9_2, hs⟩ := aL hs
 refine aW ZR rfl rfl (Ew _ _ h.lt Q9 u30 y28 (h.eT 12 rfl) G9 (h.uO 13 rfl) _ eq89x9_2) ?_
 rintro _ w ⟨Sy, rfl⟩
 refine ⟨_, rfl, ?_⟩
 replace h := h.grow Sy
 replace U2 := U2.grow Sy
 refine aA (aT U2 ?_)
 obtain ⟨bq89x10_2, X8, X9⟩ := h.rO 19 rfl aZ rfl (aC e78).1 (aC e78).2
 refine dN 10 U2 rfl (by kernel_rfl) (fun w hk => X9 _ _ _ _ _ _ _ _ _ rfl rfl) (bE 11 (by kernel_rfl) rfl aj (rX (a' := DF) (vs := [(I6 DF.kind), (I6 DF.n)]) h 19 rfl X8 rfl (aC e78).2 aY rfl rfl rfl rfl rfl fun w h Ya => ?_))
 replace U2 := U2.same Ya
 refine aA (aT U2 (gG (by kernel_rfl) (ax (ak (aD (aa (dQ rfl rfl e76r) (aa (ah (v := (I6 ((i71 + 1)))) rfl) (aA (au ?_)))))))))
 subst hnx74
 exact jM ⟨k70 + 1, i71 + 1, (x69.set (i71).toNat DF)⟩ ⟨h.cn _, by omega, hs⟩ (by have := oD XG; dsimp only; omega)
 rw [sZ (by have := of_decide_eq_false XG; omega)] at hs
 refine jl (bQ (bQ (fq (ax (ak (aD (aa (dQ rfl rfl e55r) (aa (ah (v := (I6 ((i50 + 1)))) rfl) (aA ?_)))))))))
 replace h := h.mo 14 15 19 ({ Q8 with regs := x69 }) rfl rfl rfl (by decide) (by decide) (by decide) (aC e57).2 e62 rfl
 refine au ?_
 subst hnx53
 exact jM ⟨k49 + 1, i50 + 1, (qj.set (i50).toNat ({ Q8 with regs := x69 }))⟩ ⟨h.cn _, by omega, hs⟩ (by have := oD e54; dsimp only; omega)
 rw [sZ (by have := of_decide_eq_false e54; omega)] at hs
 refine nE (aa (ag gJ rfl) (gP h 18 [u37, (.slice none 0 0), (I6 fQ.status), (I6 fQ.aK)] rfl jQ rfl rfl rfl rfl rfl fun w h => nK (aa (az h 13 rfl qU rfl rfl) (aa (bM bZ rfl (h.eT 12 rfl)) (aa (ah (v := (I6 0)) rfl) (nN (aN ?_)))))))
 have hli105 := (h.eT 12 rfl).bT
 replace h := h.yH (R := (eD Val).raw) (E := 47) 183
 replace h := h.Qb (R := bz) (Es := 51) 184
 refine gD (σ := Nat × Int × Value × List Value × List (List Val)) (inl ([13, 14, 16] ++ rg 70 28)) (fun ⟨Sz, i105, Ib, EI, wP⟩ => [(70, (I6 i105))]) (fun ⟨Sz, i105, Ib, EI, wP⟩ w => SH w0 M BE w (hset [(1, .sr dL vP a.frames), (2, .sr (l9 bz) wF a.cells), (3, .blk b1 [vP, wF, (I6 a.status), (I6 a.aK)]), (4, .blk b2 [(.slice none 0 0), (.slice none 0 0), (I6 0), (I6 0)]), (12, .own eY 3 u30 y28), (13, .blk G9 [u30]), (14, .own bB.raw 49 u37 (List.zip qj Bj)), (15, .iJ (ek bz 51 hn Bj (List.map bB.sub qj))), (18, .blk QK [u37, Ib, (I6 fQ.status), (I6 fQ.aK)]), (183, .own (eD Val).raw 47 Ib (List.zip wP EI)), (184, .iJ (ek bz 51 hn EI (List.map (eD Val).sub wP)))]) ∧ i105 = (Sz : Int) ∧ upto (jB y28 a) (l6 qj fQ) i105 (((y28.length : Int)).toNat - Sz) wP = some r) (fun ⟨Sz, i105, Ib, EI, wP⟩ => ((y28.length : Int)).toNat - Sz) ⟨0, 0, (.slice none 0 0), ([] : List Value), []⟩ ⟨rfl, trivial⟩ ?_ ?_
 exact ⟨h.cn _, rfl, hs⟩
 rintro ⟨Sz, i105, Ib, EI, wP⟩ w dR ⟨h, hik, hs⟩
 refine nG ?_
 refine aa (eO rfl rfl) (nN ?_)
 refine aM (gQ rfl (fun e109 => ?_) (fun e109 => ?_))
 refine aH (ak ?_)
 rw [sW (by have := oD e109; omega)] at hs
 generalize hnx108 : upto (jB y28 a) (l6 qj fQ) (i105 + 1) (((y28.length : Int)).toNat - (Sz + 1)) = Po at hs
 have e110r : kJ (i105 + 1) := (by have := oD e109; have := hli105; exact kJ.mk (by omega) (by omega))
 refine aM (aN (nG ?_))
 obtain ⟨Lx, Xl, hs⟩ := aL hs
 obtain ⟨b114, q115, i113⟩ := h.rO 12 rfl bZ rfl (aC Xl).1 (aC Xl).2
 refine aa (i113 _ _ _ _ _ _ _ _ _ rfl rfl) ?_
 obtain ⟨cs116, m117, r118⟩ := h.uQ 12 rfl q115 (aC Xl).2
 obtain rfl := r118
 refine aa (lh (k := 0) m117 aR rfl rfl) (aa (ae (v := (I6 Lx)) rfl) (nJ (aa (ae (v := (.slice none 0 0)) rfl) (nK (aa (ag gJ rfl) (aa (az h 3 rfl jQ rfl rfl) (aa (ah (v := (I6 Lx)) rfl) ?_)))))))
 obtain ⟨Bw, e120, hs⟩ := aL hs
 obtain ⟨b122, o123, cs124, h, r125, i121⟩ := h.xI 2 185 rfl dV rfl (aC e120).1 (aC e120).2
 obtain ⟨u126, rfl, g127⟩ := r125
 replace h := h.dh 186 g127.up
 refine aa (i121 _ _ _ _ _ _ _ _ _ rfl rfl) (aa (fo (k := 0) h 185 rfl jH rfl rfl) (aa (bM aZ rfl (h.kL 186 rfl)) (aa (ah (v := (I6 0)) rfl) (nN (aN ?_)))))
 replace h := h.yH (R := bz) (E := 51) 190
 refine gD (σ := Nat × Int × Value × List Val) (inl ([14, 16] ++ rg 80 11)) (fun ⟨SA, i137, KL, zR⟩ => [(14, KL), (80, (I6 i137))]) (fun ⟨SA, i137, KL, zR⟩ w => SH w0 M BE w (hset [(1, .sr dL vP a.frames), (2, .sr (l9 bz) wF a.cells), (3, .blk b1 [vP, wF, (I6 a.status), (I6 a.aK)]), (4, .blk b2 [(.slice none 0 0), (.slice none 0 0), (I6 0), (I6 0)]), (12, .own eY 3 u30 y28), (13, .blk G9 [u30]), (14, .own bB.raw 49 u37 (List.zip qj Bj)), (15, .iJ (ek bz 51 hn Bj (List.map bB.sub qj))), (18, .blk QK [u37, Ib, (I6 fQ.status), (I6 fQ.aK)]), (183, .own (eD Val).raw 47 Ib (List.zip wP EI)), (184, .iJ (ek bz 51 hn EI (List.map (eD Val).sub wP))), (186, .rd bz u126 Bw), (190, .own bz 51 KL zR)]) ∧ i137 = (SA : Int) ∧ each (jA y28) (oI wP Po) (Bw.drop SA) zR = some r) (fun ⟨SA, i137, KL, zR⟩ => Bw.length - SA) ⟨0, 0, (.slice none 0 0), []⟩ ⟨rfl, rfl, trivial⟩ ?_ ?_
 exact ⟨h.cn _, rfl, hs⟩
 rintro ⟨SA, i137, KL, zR⟩ w dR ⟨h, hik, hs⟩
 refine nG ?_
 refine aa (eO rfl rfl) (nN ?_)
 refine aM (gQ rfl (fun RQ => ?_) (fun RQ => ?_))
 refine aH (ak ?_)
 obtain ⟨sj, e142a, e142b⟩ := fG (hik ▸ RQ)
 rw [e142b, dU] at hs
 generalize hnx140 : each (jA y28) (oI wP Po) (Bw.drop (SA + 1)) = Pn at hs
 have e142r := fJ ((h.kL 186 rfl)).bT hik RQ
 refine aM (aN (nG ?_))
 obtain ⟨b144, o145, cs146, h, r147, i143⟩ := h.Cn 186 191 rfl aZ rfl (ig hik) (fI hik e142a)
 obtain rfl := r147
 refine aa (i143 _ _ _ _ _ _ _ _ _ rfl rfl) (aa (jc (k := 0) (vs := [(I6 sj.kind), (I6 sj.n)]) h 191 rfl aY rfl rfl rfl (bD rfl)) (bI h 192 aY fun w b148 h => dK (vs := [(I6 sj.kind), (I6 sj.n)]) h 192 [(I6 sj.kind), (I6 sj.n)] rfl aY rfl rfl rfl rfl rfl (ai rfl (ai rfl aS)) fun w h => nN (aD (aa (ah (v := KL) rfl) (aa (ah (v := (.func (.func 67) #[] #[(.pointer (some ⟨G9, 0, none⟩))])) rfl) (aa (bU (vs := [(I6 sj.kind), (I6 sj.n)]) h 192 rfl aY rfl rfl rfl) (jY (args := [(.agg #[(I6 sj.kind), (I6 sj.n)]), (.pointer (some ⟨G9, 0, none⟩))]) ZR rfl rfl (aQ (args := [(.agg #[(I6 sj.kind), (I6 sj.n)]), (.pointer (some ⟨G9, 0, none⟩))]) Tryz.func67 rfl Tryz.ntmps67 (bD rfl) (nG (kM (cs := [(I6 sj.kind), (I6 sj.n)]) h 193 rfl rfl fun w b149 h => bI h 194 aY fun w b150 h => nN (cu (σ := Int) (inl (rg 4 8)) (fun y151 => []) (fun y151 w => SH w0 M BE w (hset [(1, .sr dL vP a.frames), (2, .sr (l9 bz) wF a.cells), (3, .blk b1 [vP, wF, (I6 a.status), (I6 a.aK)]), (4, .blk b2 [(.slice none 0 0), (.slice none 0 0), (I6 0), (I6 0)]), (12, .own eY 3 u30 y28), (13, .blk G9 [u30]), (14, .own bB.raw 49 u37 (List.zip qj Bj)), (15, .iJ (ek bz 51 hn Bj (List.map bB.sub qj))), (18, .blk QK [u37, Ib, (I6 fQ.status), (I6 fQ.aK)]), (183, .own (eD Val).raw 47 Ib (List.zip wP EI)), (184, .iJ (ek bz 51 hn EI (List.map (eD Val).sub wP))), (186, .rd bz u126 Bw), (190, .own bz 51 KL zR), (193, .blk b149 [(I6 sj.kind), (I6 y151)]), (194, .blk b150 [(I6 0), (I6 0)])]) ∧ oH zR sj Pn y151 = some r) ?_ ?_)))))))))))
 rintro y151 w dR ⟨h, hs⟩
 refine nG (aa (bU (vs := [(I6 sj.kind), (I6 y151)]) h 193 rfl aY rfl rfl rfl) (dK (vs := [(I6 sj.kind), (I6 y151)]) h 194 [(I6 sj.kind), (I6 y151)] rfl aY rfl rfl rfl rfl rfl (ai rfl (ai rfl aS)) fun w h => nR (OL (vs := [(I6 sj.kind), (I6 y151)]) Tryz.results67 rfl h 194 rfl aY rfl (⟨_, rfl, ?_⟩))))
 refine sV (R := bz) (vs := [(.agg #[(I6 sj.kind), (I6 y151)])]) (xs := [(⟨sj.kind, y151⟩ : Val)]) h 195 lC rfl rfl rfl ⟨rfl, trivial⟩ rfl fun w u152 h => ?_
 obtain ⟨a153, hs⟩ := bG hs
 refine mW (R := bz) (m := [(⟨sj.kind, y151⟩ : Val)]) h 190 rfl (h.eT 195 rfl) lC rfl rfl rfl a153.1 a153.2 fun w u154 h => aa (ae (v := u154) rfl) (aA (ax (ak (aD (aa (dQ rfl rfl e142r) (aa (ah (v := (I6 ((i137 + 1)))) rfl) (aA (au ?_))))))))
 subst hnx140
 exact jM ⟨SA + 1, i137 + 1, u154, (zR ++ [(⟨sj.kind, y151⟩ : Val)])⟩ ⟨h.cn _, by omega, hs⟩ (by have := oD RQ; dsimp only; omega)
 refine nG (aa (ag lJ rfl) (aa (az h 193 rfl aR rfl rfl) (aa (bu rfl rfl) (nN (aI hs rfl (fun c155 hs => ?_) (fun c155 hs => ?_))))))
 refine aD (aa (az h 13 rfl qU rfl rfl) (aa (ag fu rfl) (aa (az h 193 rfl aR rfl rfl) ?_)))
 obtain ⟨y156, e157, hs⟩ := aL hs
 refine aW Ub rfl rfl (wW _ _ h.lt u30 y28 (h.eT 12 rfl) sj.n _ e157) ?_
 rintro _ w ⟨k158, rfl⟩
 refine ⟨_, rfl, ?_⟩
 replace h := h.grow k158
 refine aa (ag fu rfl) (gP h 193 [(I6 sj.kind), (I6 y156)] rfl aR rfl rfl rfl rfl rfl fun w h => aA (au ?_))
 exact bS y156 ⟨h.cn _, hs⟩
 refine aH (au ?_)
 exact bS sj.n ⟨h.cn _, hs⟩
 rw [fH (hik ▸ RQ), fO] at hs
 refine jl (bQ (bQ (fq (ak (aD (aa (ag gJ rfl) (aa (az h 18 rfl jQ rfl rfl) (aa (ah (v := KL) rfl) ?_))))))))
 have u159o : (Value.oneCell' KL) = true := (h.dD 190 rfl).one
 refine sV (R := (eD Val).raw) (vs := [KL]) (xs := List.zip [zR] [KL]) h 196 lv rfl rfl rfl ⟨⟨gH u159o, u159o⟩, trivial⟩ rfl fun w u159 h => ?_
 replace h := h.qh (N := (eD Val)) 190 zR rfl rfl
 obtain ⟨a160, hs⟩ := bG hs
 have z162 := h.gm 184 rfl
 have z162b := h.gm 190 rfl
 refine mW (R := (eD Val).raw) (m := List.zip [zR] [KL]) h 183 rfl (h.eT 196 rfl) lv rfl rfl rfl (by rw [cZ z162, cZ z162b]; exact a160.1) (by rw [cZ z162, cZ z162b]; exact a160.2) fun w u161 h => ?_
 replace h := (h.qf 184 190 rfl rfl (by decide)).fV 196
 rw [qg z162, ← List.map_append] at h
 obtain ⟨us163, us163e⟩ : ∃ z, z = EI ++ [KL] := ⟨_, rfl⟩
 rw [← us163e] at h
 refine aa (ag gJ rfl) (gP h 18 [u37, u161, (I6 fQ.status), (I6 fQ.aK)] rfl jQ rfl rfl rfl rfl (h.dD 183 rfl).one fun w h => aA (ax (ak (aD (aa (dQ rfl rfl e110r) (aa (ah (v := (I6 ((i105 + 1)))) rfl) (aA (au ?_))))))))
 subst hnx108
 exact jM ⟨Sz + 1, i105 + 1, u161, us163, (wP ++ [zR])⟩ ⟨h.cn _, by omega, hs⟩ (by have := oD e109; dsimp only; omega)
 rw [sZ (by have := of_decide_eq_false e109; omega)] at hs
 refine nE (aa (bU (vs := [u37, Ib, (I6 fQ.status), (I6 fQ.aK)]) h 18 rfl bC rfl rfl rfl) (dK (vs := [u37, Ib, (I6 fQ.status), (I6 fQ.aK)]) h 4 [u37, Ib, (I6 fQ.status), (I6 fQ.aK)] rfl bC rfl rfl rfl rfl rfl (ai (h.dD 14 rfl).one (ai (h.dD 183 rfl).one (ai rfl (ai rfl aS)))) fun w h => nR (OL (vs := [u37, Ib, (I6 fQ.status), (I6 fQ.aK)]) Tryz.results31 rfl h 4 rfl bC rfl ?_)))
 replace h := h.pair 14 15 (by decide)
 replace h := h.pair 14 183 (by decide)
 replace h := h.pair 14 184 (by decide)
 obtain rfl := fM hs
 obtain ⟨o1, o2, o3⟩ := h.lu 14 (C := (cU u37 Ib qj Bj wP EI)) rfl ⟨⟨⟨trivial, trivial⟩, trivial⟩, trivial⟩
 exact ⟨o2, u37, Ib, Bj, EI, rfl, o1, IX o3⟩
def ui (a : Int) (b : Val) (c : Val) : Option (Val × Bool) :=
  bif decide ((a : Int) = 5) then some ((⟨(bif (decide (b.kind = c.kind) && decide (b.n = c.n)) then 1 else 1), (bif (decide (b.kind = c.kind) && decide (b.n = c.n)) then 1 else 0)⟩ : Val), true) else bif (decide ((b.kind : Int) ≠ 1) || decide ((c.kind : Int) ≠ 1)) then some ((⟨0, 0⟩ : Val), false) else bif decide ((a : Int) = 4) then some ((⟨(bif decide ((b.n : Int) < c.n) then 1 else 1), (bif decide ((b.n : Int) < c.n) then 1 else 0)⟩ : Val), true) else iK (kJ (b.n + c.n)) (iK (kJ (b.n - c.n)) (iK (kJ (b.n * c.n)) ((idx [0, (b.n + c.n), (b.n - c.n), (b.n * c.n)] a).bind fun vY => some ((⟨1, vY⟩ : Val), (dW vY)))))
theorem zS (w0 : World) (M : BS) (hM : ∀ b, M b → b < w0.heap.size) (a : Int) (b : Val) (c : Val) (r : Val × Bool) (hs : ui a b c = some r) :
    Calls Tryz.prog 94 #[(I6 a), (.agg #[(I6 b.kind), (I6 b.n)]), (.agg #[(I6 c.kind), (I6 c.n)])] w0 (fun e w' => Grow w0 w' ∧ e = .returned (.tuple #[.agg #[.int .i64 r.1.kind, .int .i64 r.1.n], .bool r.2])) := by
 refine aQ (args := [(I6 a), (.agg #[(I6 b.kind), (I6 b.n)]), (.agg #[(I6 c.kind), (I6 c.n)])]) Tryz.func94 rfl Tryz.ntmps94 (bD rfl) ?_
 have h := SH.init hM
 refine nG (kM (cs := [(I6 b.kind), (I6 b.n)]) h 1 rfl rfl fun w b1 h => kM (cs := [(I6 c.kind), (I6 c.n)]) h 2 rfl rfl fun w b2 h => bI h 3 aY fun w b3 h => aa (ae (v := (.bool (false))) rfl) (nJ (T9 h 4 fun w b4 h => aa (fe (pv := [(0, (I6 1)), (1, (I6 1))]) (out := [(I6 1), (I6 1)]) qV rfl ⟨0, 1, [(I6 1)], rfl, rfl, rfl, bD rfl, ⟨1, 1, [(I6 1)], rfl, rfl, rfl, bD rfl, rfl⟩⟩) (OP (kT := [(true, (.agg #[(I6 1), (I6 1)]))]) h 4 rfl Gc rfl rfl rfl rfl fun w h => aa (fe (pv := [(0, (I6 1))]) (out := [(I6 1), (I6 0)]) qV rfl ⟨0, 1, [(I6 1)], rfl, rfl, rfl, bD rfl, rfl⟩) (OP (kT := [(true, (.agg #[(I6 1), (I6 1)])), (false, (.agg #[(I6 1), (I6 0)]))]) h 4 rfl Gc rfl rfl rfl rfl fun w h => aa (ah (v := (.map (some b4))) rfl) (aa (ae (v := (.map (some b4))) rfl) (nK (aa (ah (v := (I6 a)) rfl) (aa (bu rfl rfl) ?_)))))))))
 refine nN (aI hs rfl (fun c5 hs => ?_) (fun c5 hs => ?_))
 refine nG (aa (ah (v := (.map (some b4))) rfl) (aa (bU (vs := [(I6 b.kind), (I6 b.n)]) h 1 rfl aY rfl rfl rfl) (aa (bU (vs := [(I6 c.kind), (I6 c.n)]) h 2 rfl aY rfl rfl rfl) (aa (Zg Qu rfl rfl) (aa (r_lkB h 4 rfl Gc rfl rfl) (dK (vs := [(I6 ((bif (decide (b.kind = c.kind) && decide (b.n = c.n)) then 1 else 1))), (I6 ((bif (decide (b.kind = c.kind) && decide (b.n = c.n)) then 1 else 0)))]) h 3 [(I6 ((bif (decide (b.kind = c.kind) && decide (b.n = c.n)) then 1 else 1))), (I6 ((bif (decide (b.kind = c.kind) && decide (b.n = c.n)) then 1 else 0)))] rfl aY rfl rfl rfl rfl rfl (ai rfl (ai rfl aS)) fun w h => aa (ae (v := (.bool (true))) rfl) (nR (ay (lV (vs := [(I6 ((bif (decide (b.kind = c.kind) && decide (b.n = c.n)) then 1 else 1))), (I6 ((bif (decide (b.kind = c.kind) && decide (b.n = c.n)) then 1 else 0)))]) (v2 := (.bool (true))) Tryz.results94 rfl rfl h 3 rfl aY rfl ?_)))))))))
 obtain rfl := fM hs
 exact ⟨h.grown, rfl⟩
 refine aH (ak (aM (nG (aa (ag lJ rfl) (aa (az h 1 rfl aR rfl rfl) (aa (gM rfl rfl) (aa (ah (v := (.bool (decide ((b.kind : Int) ≠ 1)))) rfl) (aF rfl rfl (fun q => ag lJ rfl) (aF rfl rfl (fun q => az h 2 rfl aR (eu q) rfl) (aF rfl rfl (fun q => gM (eu q) rfl) (aa (jD rfl rfl mY) (nN (aI hs rfl (fun c6 hs => ?_) (fun c6 hs => ?_))))))))))))))
 refine nG (aa (fe (pv := []) (out := [(I6 0), (I6 0)]) qV rfl rfl) (dK (vs := [(I6 0), (I6 0)]) h 3 [(I6 0), (I6 0)] rfl aY rfl rfl rfl rfl rfl (ai rfl (ai rfl aS)) fun w h => aa (ae (v := (.bool (false))) rfl) (nR (ay (lV (vs := [(I6 0), (I6 0)]) (v2 := (.bool (false))) Tryz.results94 rfl rfl h 3 rfl aY rfl ?_)))))
 obtain rfl := fM hs
 exact ⟨h.grown, rfl⟩
 refine aH (ak (aM (nG (aa (ah (v := (I6 a)) rfl) (aa (bu rfl rfl) (nN (aI hs rfl (fun c7 hs => ?_) (fun c7 hs => ?_))))))))
 refine nG (aa (ah (v := (.map (some b4))) rfl) (aa (ag fu rfl) (aa (az h 1 rfl aR rfl rfl) (aa (ag fu rfl) (aa (az h 2 rfl aR rfl rfl) (aa (eO rfl rfl) (aa (r_lkB h 4 rfl Gc rfl rfl) (dK (vs := [(I6 ((bif decide ((b.n : Int) < c.n) then 1 else 1))), (I6 ((bif decide ((b.n : Int) < c.n) then 1 else 0)))]) h 3 [(I6 ((bif decide ((b.n : Int) < c.n) then 1 else 1))), (I6 ((bif decide ((b.n : Int) < c.n) then 1 else 0)))] rfl aY rfl rfl rfl rfl rfl (ai rfl (ai rfl aS)) fun w h => aa (ae (v := (.bool (true))) rfl) (nR (ay (lV (vs := [(I6 ((bif decide ((b.n : Int) < c.n) then 1 else 1))), (I6 ((bif decide ((b.n : Int) < c.n) then 1 else 0)))]) (v2 := (.bool (true))) Tryz.results94 rfl rfl h 3 rfl aY rfl ?_)))))))))))
 obtain rfl := fM hs
 exact ⟨h.grown, rfl⟩
 refine nS (aa (ag fu rfl) (aa (az h 1 rfl aR rfl rfl) (aa (ag fu rfl) (aa (az h 2 rfl aR rfl rfl) ?_))))
 obtain ⟨a8, hs⟩ := bG hs
 refine aa (dQ rfl rfl a8) (aa (ag fu rfl) (aa (az h 1 rfl aR rfl rfl) (aa (ag fu rfl) (aa (az h 2 rfl aR rfl rfl) ?_))))
 obtain ⟨a9, hs⟩ := bG hs
 refine aa (oh rfl rfl a9) (aa (ag fu rfl) (aa (az h 1 rfl aR rfl rfl) (aa (ag fu rfl) (aa (az h 2 rfl aR rfl rfl) ?_))))
 obtain ⟨a10, hs⟩ := bG hs
 refine aa (r_mul rfl rfl a10) (sV (R := eY) (vs := [(I6 0), (I6 ((b.n + c.n))), (I6 ((b.n - c.n))), (I6 ((b.n * c.n)))]) (xs := [0, (b.n + c.n), (b.n - c.n), (b.n * c.n)]) h 5 kI rfl rfl rfl ⟨rfl, ⟨rfl, ⟨rfl, ⟨rfl, trivial⟩⟩⟩⟩ rfl fun w u11 h => aa (ah (v := (I6 a)) rfl) ?_)
 obtain ⟨vY, e13, hs⟩ := aL hs
 obtain ⟨b15, q16, i14⟩ := h.rO 5 rfl bZ rfl (aC e13).1 (aC e13).2
 refine aa (i14 _ _ _ _ _ _ _ _ _ rfl rfl) ?_
 obtain ⟨cs17, m18, r19⟩ := h.uQ 5 rfl q16 (aC e13).2
 obtain rfl := r19
 refine aa (lh (k := 0) m18 aR rfl rfl) (aa (ae (v := (I6 vY)) rfl) (nJ (aa (ah (v := (I6 vY)) rfl) (aa (fe (pv := [(0, (I6 1)), (1, (I6 vY))]) (out := [(I6 1), (I6 vY)]) qV rfl ⟨0, 1, [(I6 1)], rfl, rfl, rfl, bD rfl, ⟨1, 1, [(I6 vY)], rfl, rfl, rfl, bD rfl, rfl⟩⟩) (aa (ah (v := (I6 vY)) rfl) (aW MI rfl rfl (o7 _ _ h.lt vY _ rfl) ?_))))))
 rintro _ w ⟨k20, rfl⟩
 refine ⟨_, rfl, ?_⟩
 replace h := h.grow k20
 refine dK (vs := [(I6 1), (I6 vY)]) h 3 [(I6 1), (I6 vY)] rfl aY rfl rfl rfl rfl rfl (ai rfl (ai rfl aS)) fun w h => aa (ae (v := (.bool ((dW vY)))) rfl) (nR (lV (vs := [(I6 1), (I6 vY)]) (v2 := (.bool ((dW vY)))) Tryz.results94 rfl rfl h 3 rfl aY rfl ?_))
 obtain rfl := fM hs
 exact ⟨h.grown, rfl⟩
end
end Go.Proofs.YtfclkapelkhlpaaGreatDoor
