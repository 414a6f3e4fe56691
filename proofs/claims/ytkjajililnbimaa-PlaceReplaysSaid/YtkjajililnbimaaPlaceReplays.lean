/- The law PlaceReplays of this seat: for every input it returns true; no condition. -/
import Derived.Test.YtkjajililnbimaaRows
import Derived.Test.YtkjajililnbimaaPlcLaw
import Derived.ProofKit
import Derived.OpenShut
import Derived.ShutString
import Derived.ChangeOld
import Derived.Below
import Derived.WideShapes
set_option linter.unusedVariables false
set_option linter.unusedSimpArgs false
namespace Go.Proofs.Ytkjajililnbimaa
open Go Go.Proofs Go.LX

namespace placeReplaysLaw
open Go Go.Proofs Go.LX Go.ChangeShapes Go.WideShapes Go.ChangeAt Go.RowKit
open Go.ChangeMaps (open_string shut_string)
theorem opens3 : Opens Try.prog 3 rInt := opens_int Try.underlying3
theorem opens24 : Opens Try.prog 24 (rSl rInt) := opens_slice Try.underlying24 (by kernel_rfl) opens3
theorem opens61 : Opens Try.prog 61 rRec := by
  intro H enc w spare held fuel cs x h
  obtain ⟨hl, n, hf⟩ := field_trod Try.underlying61 h
  rw [show Try.prog.cellsOf 61 = 6 by kernel_rfl] at hl
  obtain ⟨d0, h0⟩ := field_opens (R := rInt) (i := 0) hf rfl (by kernel_rfl) opens3
  have e0 := cells_one (show (cs.drop 0).take 1 = [.int .i64 d0] from h0)
  obtain ⟨d1, h1⟩ := field_opens (R := rInt) (i := 1) hf rfl (by kernel_rfl) opens3
  have e1 := cells_one (show (cs.drop 1).take 1 = [.int .i64 d1] from h1)
  obtain ⟨d2, h2⟩ := field_opens (R := rInt) (i := 2) hf rfl (by kernel_rfl) opens3
  have e2 := cells_one (show (cs.drop 2).take 1 = [.int .i64 d2] from h2)
  obtain ⟨d3, h3⟩ := field_opens (R := rInt) (i := 3) hf rfl (by kernel_rfl) opens3
  have e3 := cells_one (show (cs.drop 3).take 1 = [.int .i64 d3] from h3)
  obtain ⟨d4, h4⟩ := field_opens (R := (rSl rInt)) (i := 4) hf rfl (by kernel_rfl) opens24
  obtain ⟨u4, a4, s4⟩ := h4
  have e4 := cells_one (show (cs.drop 4).take 1 = [u4] from a4)
  obtain ⟨d5, h5⟩ := field_opens (R := (rSl rInt)) (i := 5) hf rfl (by kernel_rfl) opens24
  obtain ⟨u5, a5, s5⟩ := h5
  have e5 := cells_one (show (cs.drop 5).take 1 = [u5] from a5)
  obtain ⟨c0, t0, rfl, hl0⟩ := len_s hl
  obtain ⟨c1, t1, rfl, hl1⟩ := len_s hl0
  obtain ⟨c2, t2, rfl, hl2⟩ := len_s hl1
  obtain ⟨c3, t3, rfl, hl3⟩ := len_s hl2
  obtain ⟨c4, t4, rfl, hl4⟩ := len_s hl3
  obtain ⟨c5, t5, rfl, hl5⟩ := len_s hl4
  obtain rfl := List.eq_nil_of_length_eq_zero hl5
  simp at e0 e1 e2 e3 e4 e5
  subst e0 e1 e2 e3 e4 e5
  exact ⟨⟨d0, d1, d2, d3, d4, d5⟩, ⟨_, _, rfl, s4, s5⟩⟩
theorem opens89 : Opens Try.prog 89 (rSl rRec) := opens_slice Try.underlying89 (by kernel_rfl) opens61
theorem own : ownKnob Try.prog.godebug = none := by kernel_rfl
theorem laidOut : laidOutB Try.prog = true := by kernel_rfl
set_option maxRecDepth 100000 in
theorem lifted (os : Os) (started : os.Started) (H : Type) (enc : TypeId × Value → H) :
    ReturnsInHanded {} Try.checked os 13 .any (Rows.placeReplaysSpec.pre6 enc Try.prog Try.f13 Rows.placeReplaysRow.domain false) (Rows.placeReplaysSpec.post enc Try.prog Try.f13 false true false false) := by
  refine returnsInHanded_of_change (C := Try.checked) own started (by kernel_rfl) Try.func13
    (ChangeSpec.witness6 (enc := enc) (C := Try.checked) false ⟨#[], #[.slice none 0 0], []⟩ 8 (by kernel_rfl) (by kernel_rfl) (by kernel_rfl) (by kernel_rfl)) ?_
  intro W base args ds gs before hval0 hW hcnd hreach
  have hval : ∀ (j : Nat) t v, Try.f13.params[j]? = some t → args[j]? = some v → Value.okWide Try.prog W .any base t v := hval0
  have hW2 := hW
  obtain ⟨p, q, hA0, hV, rfl, hfz, hnd⟩ := hW
  have hA : DataW.TrodAll enc Try.prog W 0 (fun _ => true) true Try.f13.params.toList args.toList ds p := hA0
  rw [Try.params13] at hA hval
  obtain ⟨v0, vs0, d0, ds0, p0, q0, hargs, rfl, rfl, h0, r0⟩ := trodAll_cons hA
  obtain ⟨rfl, rfl, rfl⟩ := trodAll_nil r0
  obtain rfl : args = #[v0] := by cases args; simp_all
  obtain ⟨rfl, rfl⟩ := trodVars_none hV
  have k0 := h0
  have lt0 : ∀ x ∈ p0, x.block < W.heap.size := by obtain ⟨m, hm⟩ := k0; exact DataW.trod_lt m _ _ _ hm
  obtain ⟨m0, hm0⟩ := h0
  obtain ⟨sa0, sl0, sc0, rfl⟩ := okWide_slice Try.underlying89 (hval 0 89 _ rfl rfl)
  obtain ⟨l0, u0, e0, s0⟩ := opens89 _ enc W _ _ m0 _ _ hm0
  obtain rfl : Value.slice sa0 sl0 sc0 = u0 := by simpa [Value.cells] using e0
  clear hA0 hval0
  obtain ⟨N, hN⟩ := placeReplays _
  refine (wandererlaw_PlaceReplays_c N W BE nobody _ l0 s0 true (hN)).mono fun e W2 ⟨bel0, he⟩ => ?_
  have bel := Grow.below bel0
  subst he
  exact ⟨_, rfl, _, _, _, [], _, [], hW2, trodAll_mk1 (shut_bool Try.underlying4 _), (trodAll_cons_mk (Below.trod laidOut (by kernel_rfl) (of_decide_eq_true (by kernel_rfl)) k0 bel lt0) trodAll_mk0), rfl, bel.frame _, fun h => by cases h⟩
theorem over : Rows.placeReplaysRow.holds Try.pinned (OpenSpec.ofChange Rows.placeReplaysSpec) :=
  OpenClaim.holds_of_wide 13 Try.f13 rfl rfl rfl rfl rfl rfl rfl ⟨rfl, rfl, rfl, rfl, rfl⟩ rfl rfl rfl rfl rfl (by kernel_rfl) Try.func13 (by kernel_rfl)
    (of_decide_eq_true (by kernel_rfl)) (by unfold Func.isWrapper; first | (rw [if_pos (by decide +kernel)]; kernel_rfl) | (rw [if_neg (by decide +kernel)]; exact ⟨rfl, rfl⟩))
    (fun os started H enc _ => lifted os started H enc)
theorem proved : Rows.PlaceReplaysSaid := over
end placeReplaysLaw
#print axioms placeReplaysLaw.proved
end Go.Proofs.Ytkjajililnbimaa
