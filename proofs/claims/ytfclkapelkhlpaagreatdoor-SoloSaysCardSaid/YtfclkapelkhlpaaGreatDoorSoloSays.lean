/- The law SoloSays of this seat: for every input it returns true; no condition but what the card says of the listed variables. -/
import Derived.Test.YtfclkapelkhlpaaGreatDoorSoloSaysTj
import Derived.Test.YtfclkapelkhlpaaGreatDoorRows
import Derived.Test.YtfclkapelkhlpaaGreatDoorCards
import Derived.Test.YtfclkapelkhlpaaGreatDoorTie

import Derived.ProofKit
import Derived.SevenTiedAt
import Derived.OpenShut
import Derived.ShutString
import Derived.ChangeOld
import Derived.Below
import Derived.WideShapes
set_option linter.unusedVariables false
set_option linter.unusedSimpArgs false
namespace Go.Proofs.YtfclkapelkhlpaaGreatDoor
open Go Go.Proofs Go.LX

namespace soloSaysLaw
open Go Go.Proofs Go.LX Go.ChangeShapes Go.WideShapes Go.ChangeAt Go.RowKit
open Go.ChangeMaps (open_string shut_string)
theorem Ia : Gn Tryz.prog 3 eP := VI Tryz.underlying3
theorem opens27 : Gn Tryz.prog 27 (rU eP) := EC Tryz.underlying27 (by kernel_rfl) Ia
theorem opens93 : Gn Tryz.prog 93 kr := by
  intro H enc w spare held fuel cs x h
  obtain ⟨hl, n, hf⟩ := LB Tryz.underlying93 h
  rw [show Tryz.prog.cellsOf 93 = 5 by kernel_rfl] at hl
  obtain ⟨d0, h0⟩ := rW (R := eP) (i := 0) hf rfl (by kernel_rfl) Ia
  have e0 := cells_one (show (cs.drop 0).take 1 = [.int .i64 d0] from h0)
  obtain ⟨d1, h1⟩ := rW (R := eP) (i := 1) hf rfl (by kernel_rfl) Ia
  have e1 := cells_one (show (cs.drop 1).take 1 = [.int .i64 d1] from h1)
  obtain ⟨d2, h2⟩ := rW (R := eP) (i := 2) hf rfl (by kernel_rfl) Ia
  have e2 := cells_one (show (cs.drop 2).take 1 = [.int .i64 d2] from h2)
  obtain ⟨d3, h3⟩ := rW (R := eP) (i := 3) hf rfl (by kernel_rfl) Ia
  have e3 := cells_one (show (cs.drop 3).take 1 = [.int .i64 d3] from h3)
  obtain ⟨d4, h4⟩ := rW (R := (rU eP)) (i := 4) hf rfl (by kernel_rfl) opens27
  obtain ⟨u4, a4, s4⟩ := h4
  have e4 := cells_one (show (cs.drop 4).take 1 = [u4] from a4)
  obtain ⟨c0, t0, rfl, hl0⟩ := Kw hl
  obtain ⟨c1, t1, rfl, hl1⟩ := Kw hl0
  obtain ⟨c2, t2, rfl, hl2⟩ := Kw hl1
  obtain ⟨c3, t3, rfl, hl3⟩ := Kw hl2
  obtain ⟨c4, t4, rfl, hl4⟩ := Kw hl3
  obtain rfl := List.eq_nil_of_length_eq_zero hl4
  simp at e0 e1 e2 e3 e4
  subst e0 e1 e2 e3 e4
  exact ⟨⟨d0, d1, d2, d3, d4⟩, ⟨_, rfl, s4⟩⟩
theorem opens55 : Gn Tryz.prog 55 (rU kr) := EC Tryz.underlying55 (by kernel_rfl) opens93
theorem opens57 : Gn Tryz.prog 57 jk := by
  intro H enc w spare held fuel cs x h
  obtain ⟨hl, n, hf⟩ := LB Tryz.underlying57 h
  rw [show Tryz.prog.cellsOf 57 = 3 by kernel_rfl] at hl
  obtain ⟨d0, h0⟩ := rW (R := eP) (i := 0) hf rfl (by kernel_rfl) Ia
  have e0 := cells_one (show (cs.drop 0).take 1 = [.int .i64 d0] from h0)
  obtain ⟨d1, h1⟩ := rW (R := eP) (i := 1) hf rfl (by kernel_rfl) Ia
  have e1 := cells_one (show (cs.drop 1).take 1 = [.int .i64 d1] from h1)
  obtain ⟨d2, h2⟩ := rW (R := (rU kr)) (i := 2) hf rfl (by kernel_rfl) opens55
  obtain ⟨u2, a2, s2⟩ := h2
  have e2 := cells_one (show (cs.drop 2).take 1 = [u2] from a2)
  obtain ⟨c0, t0, rfl, hl0⟩ := Kw hl
  obtain ⟨c1, t1, rfl, hl1⟩ := Kw hl0
  obtain ⟨c2, t2, rfl, hl2⟩ := Kw hl1
  obtain rfl := List.eq_nil_of_length_eq_zero hl2
  simp at e0 e1 e2
  subst e0 e1 e2
  exact ⟨⟨d0, d1, d2⟩, ⟨_, rfl, s2⟩⟩
theorem opens22 : Gn Tryz.prog 22 (rU jk) := EC Tryz.underlying22 (by kernel_rfl) opens57
theorem own : ownKnob Tryz.prog.godebug = none := by kernel_rfl
theorem laidOut : laidOutB Tryz.prog = true := by kernel_rfl
set_option maxRecDepth 100000 in
theorem lifted (os : Os) (started : os.Started) (H : Type) (enc : TypeId × Value → H) :
    ReturnsInHanded {} Tryz.checked os 10 .any (fun w args => (Rows.soloSaysSpec.pre enc Tryz.prog Tryz.f10 [] false w args ∧ laidMetH Tryz.prog KT w) ∧ sizedMet enc Tryz.prog Tryz.f10 (OpenSpec.ofChange Rows.soloSaysSpec) false w args) (Rows.soloSaysSpec.post enc Tryz.prog Tryz.f10 false true false false) := by
  refine Py (C := Tryz.checked) (X := fun w _ => laidMetH Tryz.prog KT w) (fun _ _ _ hh h => h.of_heap hh) own started (by kernel_rfl) Tryz.func10
    (ChangeSpec.witness_shaped (enc := enc) (C := Tryz.checked) (os := os) (X := fun w _ => laidMetH Tryz.prog KT w) false (Yw (World.doorLaid Tryz.prog 400 os) 5 (QS Go.Pinned.utf8First)) #[.slice none 0 0, .int .i64 0, .int .i64 0] 8 rfl (World.shaped_of_RefB (by kernel_rfl) (by kernel_rfl)) (by kernel_rfl) (by kernel_rfl) (by kernel_rfl) (laid_met os _)) ?_
  intro W base args ds gs before hval0 hW hcnd hL hshape
  have hT := tabs_of hL hshape
  have hval : ∀ (j : Nat) t v, Tryz.f10.params[j]? = some t → args[j]? = some v → Value.okWide Tryz.prog W .any base t v := hval0
  have hW2 := hW
  obtain ⟨p, q, hA0, hV, rfl, hfz, hnd⟩ := hW
  have hA : DataW.TrodAll enc Tryz.prog W 0 (fun _ => true) true Tryz.f10.params.toList args.toList ds p := hA0
  rw [Tryz.params10] at hA hval
  obtain ⟨v0, gT, d0, ds0, p0, q0, hargs, rfl, rfl, h0, r0⟩ := trodAll_cons hA
  obtain ⟨v1, vs1, d1, ds1, p1, q1, rfl, rfl, rfl, h1, r1⟩ := trodAll_cons r0
  obtain ⟨v2, vs2, d2, ds2, p2, q2, rfl, rfl, rfl, h2, r2⟩ := trodAll_cons r1
  obtain ⟨rfl, rfl, rfl⟩ := trodAll_nil r2
  obtain rfl : args = #[v0, v1, v2] := by cases args; simp_all
  obtain ⟨rfl, rfl⟩ := trodVars_none hV
  have k0 := h0
  have lt0 : ∀ x ∈ p0, x.block < W.heap.size := by obtain ⟨m, hm⟩ := k0; exact DataW.trod_lt m _ _ _ hm
  obtain ⟨m0, hm0⟩ := h0
  obtain ⟨sa0, sl0, sc0, rfl⟩ := okWide_slice Tryz.underlying22 (hval 0 22 _ rfl rfl)
  obtain ⟨l0, u0, e0, s0⟩ := opens22 _ enc W _ _ m0 _ _ hm0
  obtain rfl : Value.slice sa0 sl0 sc0 = u0 := by simpa [Value.cells] using e0
  have k1 := h1
  have lt1 : ∀ x ∈ p1, x.block < W.heap.size := by obtain ⟨m, hm⟩ := k1; exact DataW.trod_lt m _ _ _ hm
  obtain ⟨m1, hm1⟩ := h1
  obtain ⟨z1, rfl⟩ := okWide_int Tryz.underlying3 (hval 1 3 _ rfl rfl)
  have k2 := h2
  have lt2 : ∀ x ∈ p2, x.block < W.heap.size := by obtain ⟨m, hm⟩ := k2; exact DataW.trod_lt m _ _ _ hm
  obtain ⟨m2, hm2⟩ := h2
  obtain ⟨z2, rfl⟩ := okWide_int Tryz.underlying3 (hval 2 3 _ rfl rfl)
  clear hA0 hval0
  obtain ⟨N, hN⟩ := soloSays _ _ _
  refine (Ee N W BE nobody hT _ l0 s0 z1 z2 true (hN)).mono fun e W2 ⟨bel0, he⟩ => ?_
  have bel := Grow.below bel0
  subst he
  exact ⟨_, rfl, _, _, _, [], _, [], hW2, trodAll_mk1 (shut_bool Tryz.underlying4 _), (trodAll_cons_mk (Below.trod laidOut (by kernel_rfl) (p8 (by kernel_rfl)) k0 bel lt0) (trodAll_cons_mk (Below.trod laidOut (by kernel_rfl) (p8 (by kernel_rfl)) k1 bel lt1) (trodAll_cons_mk (Below.trod laidOut (by kernel_rfl) (p8 (by kernel_rfl)) k2 bel lt2) trodAll_mk0))), rfl, bel.frame _, fun h => by cases h⟩
theorem over : Rows.soloSaysRow.holds Tryz.pinned (OpenSpec.ofChange Rows.soloSaysSpec) :=
  OpenClaim.holds_of_wide 10 Tryz.f10 rfl rfl rfl rfl rfl rfl rfl ⟨rfl, rfl, rfl, rfl, rfl⟩ rfl rfl rfl rfl rfl (by kernel_rfl) Tryz.func10 (by kernel_rfl)
    (p8 (by kernel_rfl)) (by unfold Func.isWrapper; first | (rw [if_pos (by decide +kernel)]; kernel_rfl) | (rw [if_neg (by decide +kernel)]; exact ⟨rfl, rfl⟩))
    (fun os started H enc _ => lifted os started H enc)
theorem proved : Rows.SoloSaysCardSaid :=
  Claim7.holds_tied_plain_at .later [] Rows.soloSaysCard.laidKinds true Rows.soloSaysCard.stood.harness true over (fun _ h => by cases h) (by kernel_rfl) (fun _ h => by cases h) soloSays_row_tie rfl ⟨rfl, rfl⟩ (by kernel_rfl) rfl
    (fun f fn hf hfn => by
      obtain rfl : f = 10 := (fP ((show Tryz.prog.funcNamed Rows.soloSaysRow.func = some 10 by kernel_rfl).symm.trans hf)).symm
      obtain rfl : fn = Tryz.f10 := (fP (Tryz.func10.symm.trans hfn)).symm
      refine ⟨by kernel_rfl, fun j t ht => ?_⟩
      rw [Tryz.params10] at ht
      have hm : t ∈ ([22, 3, 3] : List TypeId) := List.mem_of_getElem? (by simpa using ht)
      have hall : (([22, 3, 3] : List TypeId).all fun t => !Tryz.prog.wantsStandIn t) = true := by kernel_rfl
      have hq := List.all_eq_true.1 hall t hm
      show Tryz.prog.wantsStandIn t = false
      simpa using hq)
    (by kernel_rfl)
end soloSaysLaw
#print axioms soloSaysLaw.proved
end Go.Proofs.YtfclkapelkhlpaaGreatDoor
