/- The law VmParts of this seat: for every input it returns true; no condition but what the card says of the listed variables. -/
import Derived.Test.YtfclkapelkhlpaaGreatDoorVmPartsTh
import Derived.Test.YtfclkapelkhlpaaGreatDoorRows
import Derived.Test.YtfclkapelkhlpaaGreatDoorCards
import Derived.Test.YtfclkapelkhlpaaGreatDoorTie

import Derived.ProofKit
import Derived.SevenTiedAt
import Derived.OpenShut
import Derived.ShutString
import Derived.ChangeOld
import Derived.Below
import Derived.WideShapes
set_option linter.unusedVariables false
set_option linter.unusedSimpArgs false
namespace Go.Proofs.YtfclkapelkhlpaaGreatDoor
open Go Go.Proofs Go.LX

namespace vmPartsLaw
open Go Go.Proofs Go.LX Go.ChangeShapes Go.WideShapes Go.ChangeAt Go.RowKit
open Go.ChangeMaps (open_string shut_string)
theorem uH : wW Tryz.prog 3 dU := Sg Tryz.underlying3
theorem Sc : wW Tryz.prog 27 (mP dU) := sF Tryz.underlying27 (by kernel_rfl) uH
theorem YZ : wW Tryz.prog 93 jI := by
  intro H enc w spare held fuel cs x h
  obtain ⟨hl, n, hf⟩ := xD Tryz.underlying93 h
  rw [show Tryz.prog.cellsOf 93 = 5 by kernel_rfl] at hl
  obtain ⟨d0, h0⟩ := fF (R := dU) (i := 0) hf rfl (by kernel_rfl) uH
  have e0 := cells_one (show (cs.drop 0).take 1 = [.int .i64 d0] from h0)
  obtain ⟨d1, h1⟩ := fF (R := dU) (i := 1) hf rfl (by kernel_rfl) uH
  have e1 := cells_one (show (cs.drop 1).take 1 = [.int .i64 d1] from h1)
  obtain ⟨d2, h2⟩ := fF (R := dU) (i := 2) hf rfl (by kernel_rfl) uH
  have e2 := cells_one (show (cs.drop 2).take 1 = [.int .i64 d2] from h2)
  obtain ⟨d3, h3⟩ := fF (R := dU) (i := 3) hf rfl (by kernel_rfl) uH
  have e3 := cells_one (show (cs.drop 3).take 1 = [.int .i64 d3] from h3)
  obtain ⟨d4, h4⟩ := fF (R := (mP dU)) (i := 4) hf rfl (by kernel_rfl) Sc
  obtain ⟨u4, a4, s4⟩ := h4
  have e4 := cells_one (show (cs.drop 4).take 1 = [u4] from a4)
  obtain ⟨c0, t0, rfl, hl0⟩ := uL hl
  obtain ⟨c1, t1, rfl, hl1⟩ := uL hl0
  obtain ⟨c2, t2, rfl, hl2⟩ := uL hl1
  obtain ⟨c3, t3, rfl, hl3⟩ := uL hl2
  obtain ⟨c4, t4, rfl, hl4⟩ := uL hl3
  obtain rfl := List.eq_nil_of_length_eq_zero hl4
  simp at e0 e1 e2 e3 e4
  subst e0 e1 e2 e3 e4
  exact ⟨⟨d0, d1, d2, d3, d4⟩, ⟨_, rfl, s4⟩⟩
theorem Y0 : wW Tryz.prog 55 (mP jI) := sF Tryz.underlying55 (by kernel_rfl) YZ
theorem Y1 : wW Tryz.prog 57 jF := by
  intro H enc w spare held fuel cs x h
  obtain ⟨hl, n, hf⟩ := xD Tryz.underlying57 h
  rw [show Tryz.prog.cellsOf 57 = 3 by kernel_rfl] at hl
  obtain ⟨d0, h0⟩ := fF (R := dU) (i := 0) hf rfl (by kernel_rfl) uH
  have e0 := cells_one (show (cs.drop 0).take 1 = [.int .i64 d0] from h0)
  obtain ⟨d1, h1⟩ := fF (R := dU) (i := 1) hf rfl (by kernel_rfl) uH
  have e1 := cells_one (show (cs.drop 1).take 1 = [.int .i64 d1] from h1)
  obtain ⟨d2, h2⟩ := fF (R := (mP jI)) (i := 2) hf rfl (by kernel_rfl) Y0
  obtain ⟨u2, a2, s2⟩ := h2
  have e2 := cells_one (show (cs.drop 2).take 1 = [u2] from a2)
  obtain ⟨c0, t0, rfl, hl0⟩ := uL hl
  obtain ⟨c1, t1, rfl, hl1⟩ := uL hl0
  obtain ⟨c2, t2, rfl, hl2⟩ := uL hl1
  obtain rfl := List.eq_nil_of_length_eq_zero hl2
  simp at e0 e1 e2
  subst e0 e1 e2
  exact ⟨⟨d0, d1, d2⟩, ⟨_, rfl, s2⟩⟩
theorem Y2 : wW Tryz.prog 22 (mP jF) := sF Tryz.underlying22 (by kernel_rfl) Y1
theorem Y3 : wW Tryz.prog 51 bM := by
  intro H enc w spare held fuel cs x h
  obtain ⟨hl, n, hf⟩ := xD Tryz.underlying51 h
  rw [show Tryz.prog.cellsOf 51 = 2 by kernel_rfl] at hl
  obtain ⟨d0, h0⟩ := fF (R := dU) (i := 0) hf rfl (by kernel_rfl) uH
  have e0 := cells_one (show (cs.drop 0).take 1 = [.int .i64 d0] from h0)
  obtain ⟨d1, h1⟩ := fF (R := dU) (i := 1) hf rfl (by kernel_rfl) uH
  have e1 := cells_one (show (cs.drop 1).take 1 = [.int .i64 d1] from h1)
  obtain ⟨c0, t0, rfl, hl0⟩ := uL hl
  obtain ⟨c1, t1, rfl, hl1⟩ := uL hl0
  obtain rfl := List.eq_nil_of_length_eq_zero hl1
  simp at e0 e1
  subst e0 e1
  exact ⟨⟨d0, d1⟩, rfl⟩
theorem Sd : wW Tryz.prog 47 (mP bM) := sF Tryz.underlying47 (by kernel_rfl) Y3
theorem Y4 : wW Tryz.prog 49 dB := by
  intro H enc w spare held fuel cs x h
  obtain ⟨hl, n, hf⟩ := xD Tryz.underlying49 h
  rw [show Tryz.prog.cellsOf 49 = 4 by kernel_rfl] at hl
  obtain ⟨d0, h0⟩ := fF (R := dU) (i := 0) hf rfl (by kernel_rfl) uH
  have e0 := cells_one (show (cs.drop 0).take 1 = [.int .i64 d0] from h0)
  obtain ⟨d1, h1⟩ := fF (R := dU) (i := 1) hf rfl (by kernel_rfl) uH
  have e1 := cells_one (show (cs.drop 1).take 1 = [.int .i64 d1] from h1)
  obtain ⟨d2, h2⟩ := fF (R := (mP bM)) (i := 2) hf rfl (by kernel_rfl) Sd
  obtain ⟨u2, a2, s2⟩ := h2
  have e2 := cells_one (show (cs.drop 2).take 1 = [u2] from a2)
  obtain ⟨d3, h3⟩ := fF (R := dU) (i := 3) hf rfl (by kernel_rfl) uH
  have e3 := cells_one (show (cs.drop 3).take 1 = [.int .i64 d3] from h3)
  obtain ⟨c0, t0, rfl, hl0⟩ := uL hl
  obtain ⟨c1, t1, rfl, hl1⟩ := uL hl0
  obtain ⟨c2, t2, rfl, hl2⟩ := uL hl1
  obtain ⟨c3, t3, rfl, hl3⟩ := uL hl2
  obtain rfl := List.eq_nil_of_length_eq_zero hl3
  simp at e0 e1 e2 e3
  subst e0 e1 e2 e3
  exact ⟨⟨d0, d1, d2, d3⟩, ⟨_, rfl, s2⟩⟩
theorem Y5 : wW Tryz.prog 23 (mP dB) := sF Tryz.underlying23 (by kernel_rfl) Y4
theorem Y6 : wW Tryz.prog 24 (mP (mP bM)) := sF Tryz.underlying24 (by kernel_rfl) Sd
theorem Y7 : wW Tryz.prog 26 U5 := by
  intro H enc w spare held fuel cs x h
  obtain ⟨hl, n, hf⟩ := xD Tryz.underlying26 h
  rw [show Tryz.prog.cellsOf 26 = 4 by kernel_rfl] at hl
  obtain ⟨d0, h0⟩ := fF (R := (mP dB)) (i := 0) hf rfl (by kernel_rfl) Y5
  obtain ⟨u0, a0, s0⟩ := h0
  have e0 := cells_one (show (cs.drop 0).take 1 = [u0] from a0)
  obtain ⟨d1, h1⟩ := fF (R := (mP (mP bM))) (i := 1) hf rfl (by kernel_rfl) Y6
  obtain ⟨u1, a1, s1⟩ := h1
  have e1 := cells_one (show (cs.drop 1).take 1 = [u1] from a1)
  obtain ⟨d2, h2⟩ := fF (R := dU) (i := 2) hf rfl (by kernel_rfl) uH
  have e2 := cells_one (show (cs.drop 2).take 1 = [.int .i64 d2] from h2)
  obtain ⟨d3, h3⟩ := fF (R := dU) (i := 3) hf rfl (by kernel_rfl) uH
  have e3 := cells_one (show (cs.drop 3).take 1 = [.int .i64 d3] from h3)
  obtain ⟨c0, t0, rfl, hl0⟩ := uL hl
  obtain ⟨c1, t1, rfl, hl1⟩ := uL hl0
  obtain ⟨c2, t2, rfl, hl2⟩ := uL hl1
  obtain ⟨c3, t3, rfl, hl3⟩ := uL hl2
  obtain rfl := List.eq_nil_of_length_eq_zero hl3
  simp at e0 e1 e2 e3
  subst e0 e1 e2 e3
  exact ⟨⟨d0, d1, d2, d3⟩, ⟨_, _, rfl, s0, s1⟩⟩
theorem own : ownKnob Tryz.prog.godebug = none := by kernel_rfl
theorem laidOut : laidOutB Tryz.prog = true := by kernel_rfl
set_option maxRecDepth 100000 in
theorem lifted (os : Os) (started : os.Started) (H : Type) (enc : TypeId × Value → H) :
    ReturnsInHanded {} Tryz.checked os 5 .any (fun w args => (Rows.vmPartsSpec.pre enc Tryz.prog Tryz.f5 [] false w args ∧ laidMetH Tryz.prog GU w) ∧ sizedMet enc Tryz.prog Tryz.f5 (OpenSpec.ofChange Rows.vmPartsSpec) false w args) (Rows.vmPartsSpec.post enc Tryz.prog Tryz.f5 false true false false) := by
  refine L8 (C := Tryz.checked) (X := fun w _ => laidMetH Tryz.prog GU w) (fun _ _ _ hh h => h.of_heap hh) own started (by kernel_rfl) Tryz.func5
    (ChangeSpec.witness_shaped (enc := enc) (C := Tryz.checked) (os := os) (X := fun w _ => laidMetH Tryz.prog GU w) false (U1 (World.doorLaid Tryz.prog 400 os) 5 (Nu Go.Pinned.utf8First)) #[.slice none 0 0, (.agg #[(.slice none 0 0), (.slice none 0 0), (I6 0), (I6 0)]), .slice none 0 0] 8 rfl (World.shaped_of_RefB (by kernel_rfl) (by kernel_rfl)) (by kernel_rfl) (by kernel_rfl) (by kernel_rfl) (XF os _)) ?_
  intro W base args ds gs before hval0 hW hcnd hL hshape
  have hT := YY hL hshape
  have hval : ∀ (j : Nat) t v, Tryz.f5.params[j]? = some t → args[j]? = some v → Value.okWide Tryz.prog W .any base t v := hval0
  have hW2 := hW
  obtain ⟨p, q, hA0, hV, rfl, hfz, hnd⟩ := hW
  have hA : DataW.TrodAll enc Tryz.prog W 0 (fun _ => true) true Tryz.f5.params.toList args.toList ds p := hA0
  rw [Tryz.params5] at hA hval
  obtain ⟨v0, jq, d0, ds0, p0, q0, hargs, rfl, rfl, h0, r0⟩ := trodAll_cons hA
  obtain ⟨v1, vs1, d1, ds1, p1, q1, rfl, rfl, rfl, h1, r1⟩ := trodAll_cons r0
  obtain ⟨v2, vs2, d2, ds2, p2, q2, rfl, rfl, rfl, h2, r2⟩ := trodAll_cons r1
  obtain ⟨rfl, rfl, rfl⟩ := trodAll_nil r2
  obtain rfl : args = #[v0, v1, v2] := by cases args; simp_all
  obtain ⟨rfl, rfl⟩ := trodVars_none hV
  have k0 := h0
  have lt0 : ∀ x ∈ p0, x.block < W.heap.size := by obtain ⟨m, hm⟩ := k0; exact DataW.trod_lt m _ _ _ hm
  obtain ⟨m0, hm0⟩ := h0
  obtain ⟨sa0, sl0, sc0, rfl⟩ := okWide_slice Tryz.underlying22 (hval 0 22 _ rfl rfl)
  obtain ⟨l0, u0, e0, s0⟩ := Y2 _ enc W _ _ m0 _ _ hm0
  obtain rfl : Value.slice sa0 sl0 sc0 = u0 := by simpa [Value.cells] using e0
  have k1 := h1
  have lt1 : ∀ x ∈ p1, x.block < W.heap.size := by obtain ⟨m, hm⟩ := k1; exact DataW.trod_lt m _ _ _ hm
  obtain ⟨m1, hm1⟩ := h1
  obtain ⟨g1, rfl, _⟩ := okWide_struct Tryz.underlying26 (hval 1 26 _ rfl rfl)
  obtain ⟨x1, rd1⟩ := Y7 _ enc W _ _ m1 _ _ hm1
  obtain ⟨q1_0, q1_1, c1, s1_0, s1_1⟩ := Nw rd1
  obtain rfl : g1 = #[q1_0, q1_1, .int .i64 x1.status, .int .i64 x1.aK] := Array.ext' (by simpa [Value.cells] using c1)
  have k2 := h2
  have lt2 : ∀ x ∈ p2, x.block < W.heap.size := by obtain ⟨m, hm⟩ := k2; exact DataW.trod_lt m _ _ _ hm
  obtain ⟨m2, hm2⟩ := h2
  obtain ⟨sa2, sl2, sc2, rfl⟩ := okWide_slice Tryz.underlying27 (hval 2 27 _ rfl rfl)
  obtain ⟨l2, u2, e2, s2⟩ := Sc _ enc W _ _ m2 _ _ hm2
  obtain rfl : Value.slice sa2 sl2 sc2 = u2 := by simpa [Value.cells] using e2
  clear hA0 hval0
  obtain ⟨N, hN⟩ := vmParts _ _ _
  refine (Bt N W BE nobody hT _ l0 s0 x1 q1_0 q1_1 s1_0 s1_1 _ l2 s2 true (hN)).mono fun e W2 ⟨bel0, he⟩ => ?_
  have bel := Grow.below bel0
  subst he
  exact ⟨_, rfl, _, _, _, [], _, [], hW2, trodAll_mk1 (shut_bool Tryz.underlying4 _), (trodAll_cons_mk (Below.trod laidOut (by kernel_rfl) (rq (by kernel_rfl)) k0 bel lt0) (trodAll_cons_mk (Below.trod laidOut (by kernel_rfl) (rq (by kernel_rfl)) k1 bel lt1) (trodAll_cons_mk (Below.trod laidOut (by kernel_rfl) (rq (by kernel_rfl)) k2 bel lt2) trodAll_mk0))), rfl, bel.frame _, fun h => by cases h⟩
theorem over : Rows.vmPartsRow.holds Tryz.pinned (OpenSpec.ofChange Rows.vmPartsSpec) :=
  OpenClaim.holds_of_wide 5 Tryz.f5 rfl rfl rfl rfl rfl rfl rfl ⟨rfl, rfl, rfl, rfl, rfl⟩ rfl rfl rfl rfl rfl (by kernel_rfl) Tryz.func5 (by kernel_rfl)
    (rq (by kernel_rfl)) (by unfold Func.isWrapper; first | (rw [if_pos (by decide +kernel)]; kernel_rfl) | (rw [if_neg (by decide +kernel)]; exact ⟨rfl, rfl⟩))
    (fun os started H enc _ => lifted os started H enc)
theorem proved : Rows.VmPartsCardSaid :=
  Claim7.holds_tied_plain_at .later [] Rows.vmPartsCard.laidKinds true Rows.vmPartsCard.stood.harness true over (fun _ h => by cases h) (by kernel_rfl) (fun _ h => by cases h) vmParts_row_tie rfl ⟨rfl, rfl⟩ (by kernel_rfl) rfl
    (fun f fn hf hfn => by
      obtain rfl : f = 5 := (fJ ((show Tryz.prog.funcNamed Rows.vmPartsRow.func = some 5 by kernel_rfl).symm.trans hf)).symm
      obtain rfl : fn = Tryz.f5 := (fJ (Tryz.func5.symm.trans hfn)).symm
      refine ⟨by kernel_rfl, fun j t ht => ?_⟩
      rw [Tryz.params5] at ht
      have hm : t ∈ ([22, 26, 27] : List TypeId) := List.mem_of_getElem? (by simpa using ht)
      have hall : (([22, 26, 27] : List TypeId).all fun t => !Tryz.prog.wantsStandIn t) = true := by kernel_rfl
      have hq := List.all_eq_true.1 hall t hm
      show Tryz.prog.wantsStandIn t = false
      simpa using hq)
    (by kernel_rfl)
end vmPartsLaw
#print axioms vmPartsLaw.proved
end Go.Proofs.YtfclkapelkhlpaaGreatDoor
