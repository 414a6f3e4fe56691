/- The law SnapTorn of this seat: for every input it returns true; no condition but what the card says of the listed variables. -/
import Derived.Test.YtfclkapelkhlpaaGreatDoorSnapTornTg
import Derived.Test.YtfclkapelkhlpaaGreatDoorRows
import Derived.Test.YtfclkapelkhlpaaGreatDoorCards
import Derived.Test.YtfclkapelkhlpaaGreatDoorTie

import Derived.ProofKit
import Derived.SevenTiedAt
import Derived.OpenShut
import Derived.ShutString
import Derived.ChangeOld
import Derived.Below
import Derived.WideShapes
set_option linter.unusedVariables false
set_option linter.unusedSimpArgs false
namespace Go.Proofs.YtfclkapelkhlpaaGreatDoor
open Go Go.Proofs Go.LX

namespace snapTornLaw
open Go Go.Proofs Go.LX Go.ChangeShapes Go.WideShapes Go.ChangeAt Go.RowKit
open Go.ChangeMaps (open_string shut_string)
theorem rF : uu Tryz.prog 3 cu := Mw Tryz.underlying3
theorem R7 : uu Tryz.prog 27 (oN cu) := qm Tryz.underlying27 (by kernel_rfl) rF
theorem R8 : uu Tryz.prog 93 iJ := by
  intro H enc w spare held fuel cs x h
  obtain ⟨hl, n, hf⟩ := uW Tryz.underlying93 h
  rw [show Tryz.prog.cellsOf 93 = 5 by kernel_rfl] at hl
  obtain ⟨d0, h0⟩ := dZ (R := cu) (i := 0) hf rfl (by kernel_rfl) rF
  have e0 := cells_one (show (cs.drop 0).take 1 = [.int .i64 d0] from h0)
  obtain ⟨d1, h1⟩ := dZ (R := cu) (i := 1) hf rfl (by kernel_rfl) rF
  have e1 := cells_one (show (cs.drop 1).take 1 = [.int .i64 d1] from h1)
  obtain ⟨d2, h2⟩ := dZ (R := cu) (i := 2) hf rfl (by kernel_rfl) rF
  have e2 := cells_one (show (cs.drop 2).take 1 = [.int .i64 d2] from h2)
  obtain ⟨d3, h3⟩ := dZ (R := cu) (i := 3) hf rfl (by kernel_rfl) rF
  have e3 := cells_one (show (cs.drop 3).take 1 = [.int .i64 d3] from h3)
  obtain ⟨d4, h4⟩ := dZ (R := (oN cu)) (i := 4) hf rfl (by kernel_rfl) R7
  obtain ⟨u4, a4, s4⟩ := h4
  have e4 := cells_one (show (cs.drop 4).take 1 = [u4] from a4)
  obtain ⟨c0, t0, rfl, hl0⟩ := rH hl
  obtain ⟨c1, t1, rfl, hl1⟩ := rH hl0
  obtain ⟨c2, t2, rfl, hl2⟩ := rH hl1
  obtain ⟨c3, t3, rfl, hl3⟩ := rH hl2
  obtain ⟨c4, t4, rfl, hl4⟩ := rH hl3
  obtain rfl := List.eq_nil_of_length_eq_zero hl4
  simp at e0 e1 e2 e3 e4
  subst e0 e1 e2 e3 e4
  exact ⟨⟨d0, d1, d2, d3, d4⟩, ⟨_, rfl, s4⟩⟩
theorem R9 : uu Tryz.prog 55 (oN iJ) := qm Tryz.underlying55 (by kernel_rfl) R8
theorem Sa : uu Tryz.prog 57 lH := by
  intro H enc w spare held fuel cs x h
  obtain ⟨hl, n, hf⟩ := uW Tryz.underlying57 h
  rw [show Tryz.prog.cellsOf 57 = 3 by kernel_rfl] at hl
  obtain ⟨d0, h0⟩ := dZ (R := cu) (i := 0) hf rfl (by kernel_rfl) rF
  have e0 := cells_one (show (cs.drop 0).take 1 = [.int .i64 d0] from h0)
  obtain ⟨d1, h1⟩ := dZ (R := cu) (i := 1) hf rfl (by kernel_rfl) rF
  have e1 := cells_one (show (cs.drop 1).take 1 = [.int .i64 d1] from h1)
  obtain ⟨d2, h2⟩ := dZ (R := (oN iJ)) (i := 2) hf rfl (by kernel_rfl) R9
  obtain ⟨u2, a2, s2⟩ := h2
  have e2 := cells_one (show (cs.drop 2).take 1 = [u2] from a2)
  obtain ⟨c0, t0, rfl, hl0⟩ := rH hl
  obtain ⟨c1, t1, rfl, hl1⟩ := rH hl0
  obtain ⟨c2, t2, rfl, hl2⟩ := rH hl1
  obtain rfl := List.eq_nil_of_length_eq_zero hl2
  simp at e0 e1 e2
  subst e0 e1 e2
  exact ⟨⟨d0, d1, d2⟩, ⟨_, rfl, s2⟩⟩
theorem Sb : uu Tryz.prog 22 (oN lH) := qm Tryz.underlying22 (by kernel_rfl) Sa
theorem Sc : uu Tryz.prog 51 bM := by
  intro H enc w spare held fuel cs x h
  obtain ⟨hl, n, hf⟩ := uW Tryz.underlying51 h
  rw [show Tryz.prog.cellsOf 51 = 2 by kernel_rfl] at hl
  obtain ⟨d0, h0⟩ := dZ (R := cu) (i := 0) hf rfl (by kernel_rfl) rF
  have e0 := cells_one (show (cs.drop 0).take 1 = [.int .i64 d0] from h0)
  obtain ⟨d1, h1⟩ := dZ (R := cu) (i := 1) hf rfl (by kernel_rfl) rF
  have e1 := cells_one (show (cs.drop 1).take 1 = [.int .i64 d1] from h1)
  obtain ⟨c0, t0, rfl, hl0⟩ := rH hl
  obtain ⟨c1, t1, rfl, hl1⟩ := rH hl0
  obtain rfl := List.eq_nil_of_length_eq_zero hl1
  simp at e0 e1
  subst e0 e1
  exact ⟨⟨d0, d1⟩, rfl⟩
theorem Ms : uu Tryz.prog 47 (oN bM) := qm Tryz.underlying47 (by kernel_rfl) Sc
theorem Sd : uu Tryz.prog 49 eG := by
  intro H enc w spare held fuel cs x h
  obtain ⟨hl, n, hf⟩ := uW Tryz.underlying49 h
  rw [show Tryz.prog.cellsOf 49 = 4 by kernel_rfl] at hl
  obtain ⟨d0, h0⟩ := dZ (R := cu) (i := 0) hf rfl (by kernel_rfl) rF
  have e0 := cells_one (show (cs.drop 0).take 1 = [.int .i64 d0] from h0)
  obtain ⟨d1, h1⟩ := dZ (R := cu) (i := 1) hf rfl (by kernel_rfl) rF
  have e1 := cells_one (show (cs.drop 1).take 1 = [.int .i64 d1] from h1)
  obtain ⟨d2, h2⟩ := dZ (R := (oN bM)) (i := 2) hf rfl (by kernel_rfl) Ms
  obtain ⟨u2, a2, s2⟩ := h2
  have e2 := cells_one (show (cs.drop 2).take 1 = [u2] from a2)
  obtain ⟨d3, h3⟩ := dZ (R := cu) (i := 3) hf rfl (by kernel_rfl) rF
  have e3 := cells_one (show (cs.drop 3).take 1 = [.int .i64 d3] from h3)
  obtain ⟨c0, t0, rfl, hl0⟩ := rH hl
  obtain ⟨c1, t1, rfl, hl1⟩ := rH hl0
  obtain ⟨c2, t2, rfl, hl2⟩ := rH hl1
  obtain ⟨c3, t3, rfl, hl3⟩ := rH hl2
  obtain rfl := List.eq_nil_of_length_eq_zero hl3
  simp at e0 e1 e2 e3
  subst e0 e1 e2 e3
  exact ⟨⟨d0, d1, d2, d3⟩, ⟨_, rfl, s2⟩⟩
theorem Sg : uu Tryz.prog 23 (oN eG) := qm Tryz.underlying23 (by kernel_rfl) Sd
theorem Si : uu Tryz.prog 24 (oN (oN bM)) := qm Tryz.underlying24 (by kernel_rfl) Ms
theorem Mt : uu Tryz.prog 26 OG := by
  intro H enc w spare held fuel cs x h
  obtain ⟨hl, n, hf⟩ := uW Tryz.underlying26 h
  rw [show Tryz.prog.cellsOf 26 = 4 by kernel_rfl] at hl
  obtain ⟨d0, h0⟩ := dZ (R := (oN eG)) (i := 0) hf rfl (by kernel_rfl) Sg
  obtain ⟨u0, a0, s0⟩ := h0
  have e0 := cells_one (show (cs.drop 0).take 1 = [u0] from a0)
  obtain ⟨d1, h1⟩ := dZ (R := (oN (oN bM))) (i := 1) hf rfl (by kernel_rfl) Si
  obtain ⟨u1, a1, s1⟩ := h1
  have e1 := cells_one (show (cs.drop 1).take 1 = [u1] from a1)
  obtain ⟨d2, h2⟩ := dZ (R := cu) (i := 2) hf rfl (by kernel_rfl) rF
  have e2 := cells_one (show (cs.drop 2).take 1 = [.int .i64 d2] from h2)
  obtain ⟨d3, h3⟩ := dZ (R := cu) (i := 3) hf rfl (by kernel_rfl) rF
  have e3 := cells_one (show (cs.drop 3).take 1 = [.int .i64 d3] from h3)
  obtain ⟨c0, t0, rfl, hl0⟩ := rH hl
  obtain ⟨c1, t1, rfl, hl1⟩ := rH hl0
  obtain ⟨c2, t2, rfl, hl2⟩ := rH hl1
  obtain ⟨c3, t3, rfl, hl3⟩ := rH hl2
  obtain rfl := List.eq_nil_of_length_eq_zero hl3
  simp at e0 e1 e2 e3
  subst e0 e1 e2 e3
  exact ⟨⟨d0, d1, d2, d3⟩, ⟨_, _, rfl, s0, s1⟩⟩
theorem own : ownKnob Tryz.prog.godebug = none := by kernel_rfl
theorem laidOut : laidOutB Tryz.prog = true := by kernel_rfl
set_option maxRecDepth 100000 in
theorem lifted (os : Os) (started : os.Started) (H : Type) (enc : TypeId × Value → H) :
    ReturnsInHanded {} Tryz.checked os 3 .any (fun w args => (Rows.snapTornSpec.pre enc Tryz.prog Tryz.f3 [] false w args ∧ laidMetH Tryz.prog Dp w) ∧ sizedMet enc Tryz.prog Tryz.f3 (OpenSpec.ofChange Rows.snapTornSpec) false w args) (Rows.snapTornSpec.post enc Tryz.prog Tryz.f3 false true false false) := by
  refine GX (C := Tryz.checked) (X := fun w _ => laidMetH Tryz.prog Dp w) (fun _ _ _ hh h => h.of_heap hh) own started (by kernel_rfl) Tryz.func3
    (ChangeSpec.witness_shaped (enc := enc) (C := Tryz.checked) (os := os) (X := fun w _ => laidMetH Tryz.prog Dp w) false (OB (World.doorLaid Tryz.prog 400 os) 5 (IU Go.Pinned.utf8First)) #[.slice none 0 0, (.agg #[(.slice none 0 0), (.slice none 0 0), (I6 0), (I6 0)]), (.agg #[(.slice none 0 0), (.slice none 0 0), (I6 0), (I6 0)]), .int .i64 0, .int .i64 0] 8 rfl (World.shaped_of_RefB (by kernel_rfl) (by kernel_rfl)) (by kernel_rfl) (by kernel_rfl) (by kernel_rfl) (QP os _)) ?_
  intro W base args ds gs before hval0 hW hcnd hL hshape
  have hT := R6 hL hshape
  have hval : ∀ (j : Nat) t v, Tryz.f3.params[j]? = some t → args[j]? = some v → Value.okWide Tryz.prog W .any base t v := hval0
  have hW2 := hW
  obtain ⟨p, q, hA0, hV, rfl, hfz, hnd⟩ := hW
  have hA : DataW.TrodAll enc Tryz.prog W 0 (fun _ => true) true Tryz.f3.params.toList args.toList ds p := hA0
  rw [Tryz.params3] at hA hval
  obtain ⟨v0, zQ, d0, ds0, p0, q0, hargs, rfl, rfl, h0, r0⟩ := trodAll_cons hA
  obtain ⟨v1, vs1, d1, ds1, p1, q1, rfl, rfl, rfl, h1, r1⟩ := trodAll_cons r0
  obtain ⟨v2, vs2, d2, ds2, p2, q2, rfl, rfl, rfl, h2, r2⟩ := trodAll_cons r1
  obtain ⟨v3, vs3, d3, ds3, p3, q3, rfl, rfl, rfl, h3, r3⟩ := trodAll_cons r2
  obtain ⟨v4, vs4, d4, ds4, p4, q4, rfl, rfl, rfl, h4, r4⟩ := trodAll_cons r3
  obtain ⟨rfl, rfl, rfl⟩ := trodAll_nil r4
  obtain rfl : args = #[v0, v1, v2, v3, v4] := by cases args; simp_all
  obtain ⟨rfl, rfl⟩ := trodVars_none hV
  have k0 := h0
  have lt0 : ∀ x ∈ p0, x.block < W.heap.size := by obtain ⟨m, hm⟩ := k0; exact DataW.trod_lt m _ _ _ hm
  obtain ⟨m0, hm0⟩ := h0
  obtain ⟨sa0, sl0, sc0, rfl⟩ := okWide_slice Tryz.underlying22 (hval 0 22 _ rfl rfl)
  obtain ⟨l0, u0, e0, s0⟩ := Sb _ enc W _ _ m0 _ _ hm0
  obtain rfl : Value.slice sa0 sl0 sc0 = u0 := by simpa [Value.cells] using e0
  have k1 := h1
  have lt1 : ∀ x ∈ p1, x.block < W.heap.size := by obtain ⟨m, hm⟩ := k1; exact DataW.trod_lt m _ _ _ hm
  obtain ⟨m1, hm1⟩ := h1
  obtain ⟨g1, rfl, _⟩ := okWide_struct Tryz.underlying26 (hval 1 26 _ rfl rfl)
  obtain ⟨x1, rd1⟩ := Mt _ enc W _ _ m1 _ _ hm1
  obtain ⟨X6, X7, c1, s1_0, s1_1⟩ := Dc rd1
  obtain rfl : g1 = #[X6, X7, .int .i64 x1.status, .int .i64 x1.bN] := Array.ext' (by simpa [Value.cells] using c1)
  have k2 := h2
  have lt2 : ∀ x ∈ p2, x.block < W.heap.size := by obtain ⟨m, hm⟩ := k2; exact DataW.trod_lt m _ _ _ hm
  obtain ⟨m2, hm2⟩ := h2
  obtain ⟨g2, rfl, _⟩ := okWide_struct Tryz.underlying26 (hval 2 26 _ rfl rfl)
  obtain ⟨x2, rd2⟩ := Mt _ enc W _ _ m2 _ _ hm2
  obtain ⟨X8, X9, c2, s2_0, s2_1⟩ := Dc rd2
  obtain rfl : g2 = #[X8, X9, .int .i64 x2.status, .int .i64 x2.bN] := Array.ext' (by simpa [Value.cells] using c2)
  have k3 := h3
  have lt3 : ∀ x ∈ p3, x.block < W.heap.size := by obtain ⟨m, hm⟩ := k3; exact DataW.trod_lt m _ _ _ hm
  obtain ⟨m3, hm3⟩ := h3
  obtain ⟨z3, rfl⟩ := okWide_int Tryz.underlying3 (hval 3 3 _ rfl rfl)
  have k4 := h4
  have lt4 : ∀ x ∈ p4, x.block < W.heap.size := by obtain ⟨m, hm⟩ := k4; exact DataW.trod_lt m _ _ _ hm
  obtain ⟨m4, hm4⟩ := h4
  obtain ⟨z4, rfl⟩ := okWide_int Tryz.underlying3 (hval 4 3 _ rfl rfl)
  clear hA0 hval0
  obtain ⟨N, hN⟩ := snapTorn _ _ _ _ _
  refine (yc N W BE nobody hT _ l0 s0 x1 X6 X7 s1_0 s1_1 x2 X8 X9 s2_0 s2_1 z3 z4 true (hN)).mono fun e W2 ⟨bel0, he⟩ => ?_
  have VI := Grow.below bel0
  subst he
  exact ⟨_, rfl, _, _, _, [], _, [], hW2, trodAll_mk1 (shut_bool Tryz.underlying4 _), (trodAll_cons_mk (Below.trod laidOut (by kernel_rfl) (nX (by kernel_rfl)) k0 VI lt0) (trodAll_cons_mk (Below.trod laidOut (by kernel_rfl) (nX (by kernel_rfl)) k1 VI lt1) (trodAll_cons_mk (Below.trod laidOut (by kernel_rfl) (nX (by kernel_rfl)) k2 VI lt2) (trodAll_cons_mk (Below.trod laidOut (by kernel_rfl) (nX (by kernel_rfl)) k3 VI lt3) (trodAll_cons_mk (Below.trod laidOut (by kernel_rfl) (nX (by kernel_rfl)) k4 VI lt4) trodAll_mk0))))), rfl, VI.frame _, fun h => by cases h⟩
theorem over : Rows.snapTornRow.holds Tryz.pinned (OpenSpec.ofChange Rows.snapTornSpec) :=
  OpenClaim.holds_of_wide 3 Tryz.f3 rfl rfl rfl rfl rfl rfl rfl ⟨rfl, rfl, rfl, rfl, rfl⟩ rfl rfl rfl rfl rfl (by kernel_rfl) Tryz.func3 (by kernel_rfl)
    (nX (by kernel_rfl)) (by unfold Func.isWrapper; first | (rw [if_pos (by decide +kernel)]; kernel_rfl) | (rw [if_neg (by decide +kernel)]; exact ⟨rfl, rfl⟩))
    (fun os started H enc _ => lifted os started H enc)
theorem proved : Rows.SnapTornCardSaid :=
  Claim7.holds_tied_plain_at .later [] Rows.snapTornCard.laidKinds true Rows.snapTornCard.stood.harness true over (fun _ h => by cases h) (by kernel_rfl) (fun _ h => by cases h) snapTorn_row_tie rfl ⟨rfl, rfl⟩ (by kernel_rfl) rfl
    (fun f fn hf hfn => by
      obtain rfl : f = 3 := (gM ((show Tryz.prog.funcNamed Rows.snapTornRow.func = some 3 by kernel_rfl).symm.trans hf)).symm
      obtain rfl : fn = Tryz.f3 := (gM (Tryz.func3.symm.trans hfn)).symm
      refine ⟨by kernel_rfl, fun j t ht => ?_⟩
      rw [Tryz.params3] at ht
      have hm : t ∈ ([22, 26, 26, 3, 3] : List TypeId) := List.mem_of_getElem? (by simpa using ht)
      have hall : (([22, 26, 26, 3, 3] : List TypeId).all fun t => !Tryz.prog.wantsStandIn t) = true := by kernel_rfl
      have hq := List.all_eq_true.1 hall t hm
      show Tryz.prog.wantsStandIn t = false
      simpa using hq)
    (by kernel_rfl)
end snapTornLaw
#print axioms snapTornLaw.proved
end Go.Proofs.YtfclkapelkhlpaaGreatDoor
