/- The law CellSays of this seat: for every input it returns true; no condition. -/
import Derived.Test.YtkjajililnbimaaRows
import Derived.Test.YtkjajililnbimaaWalkE
import Derived.ProofKit
import Derived.OpenShut
import Derived.ShutString
import Derived.ChangeOld
import Derived.Below
import Derived.WideShapes
set_option linter.unusedVariables false
set_option linter.unusedSimpArgs false
namespace Go.Proofs.Ytkjajililnbimaa
open Go Go.Proofs Go.WX
theorem opens3 : Opens Try.prog 3 rInt := opens_int Try.underlying3
theorem opens34 : Opens Try.prog 34 rVal := opens_val Try.underlying34 (by kernel_rfl) rfl rfl (by kernel_rfl) (by kernel_rfl) opens3 opens3
theorem opens28 : Opens Try.prog 28 (rSlice rVal) := opens_slice Try.underlying28 (by kernel_rfl) opens34
theorem opens27 : Opens Try.prog 27 (rSlice (rSlice rVal)) := opens_slice Try.underlying27 (by kernel_rfl) opens28
namespace cellSaysLaw
open Go Go.Proofs Go.WX Go.ChangeShapes Go.WideShapes Go.ChangeAt Go.RowKit
open Go.ChangeMaps (open_string shut_string)
theorem own : ownKnob Try.prog.godebug = none := by kernel_rfl
theorem laidOut : laidOutB Try.prog = true := by kernel_rfl
set_option maxRecDepth 100000 in
theorem lifted (os : Os) (started : os.Started) (H : Type) (enc : TypeId × Value → H) :
    ReturnsInHanded {} Try.checked os 7 .any (Rows.cellSaysSpec.pre6 enc Try.prog Try.f7 Rows.cellSaysRow.domain false) (Rows.cellSaysSpec.post enc Try.prog Try.f7 false true false false) := by
  refine returnsInHanded_of_change (C := Try.checked) own started (by kernel_rfl) Try.func7
    (ChangeSpec.witness6 (enc := enc) (C := Try.checked) false ⟨#[], #[.slice none 0 0, .slice none 0 0, .agg #[.int .i64 0, .int .i64 0], .int .i64 0, .slice none 0 0], []⟩ 8 (by kernel_rfl) (by kernel_rfl) (by kernel_rfl) (by kernel_rfl)) ?_
  intro W base args ds gs before hval0 hW hcnd hreach
  have hval : ∀ (j : Nat) t v, Try.f7.params[j]? = some t → args[j]? = some v → Value.okWide Try.prog W .any base t v := hval0
  have hW2 := hW
  obtain ⟨p, q, hA0, hV, rfl, hfz, hnd⟩ := hW
  have hA : DataW.TrodAll enc Try.prog W 0 (fun _ => true) true Try.f7.params.toList args.toList ds p := hA0
  rw [Try.params7] at hA hval
  obtain ⟨v0, vs0, d0, ds0, p0, q0, hargs, rfl, rfl, h0, r0⟩ := trodAll_cons hA
  obtain ⟨v1, vs1, d1, ds1, p1, q1, rfl, rfl, rfl, h1, r1⟩ := trodAll_cons r0
  obtain ⟨v2, vs2, d2, ds2, p2, q2, rfl, rfl, rfl, h2, r2⟩ := trodAll_cons r1
  obtain ⟨v3, vs3, d3, ds3, p3, q3, rfl, rfl, rfl, h3, r3⟩ := trodAll_cons r2
  obtain ⟨v4, vs4, d4, ds4, p4, q4, rfl, rfl, rfl, h4, r4⟩ := trodAll_cons r3
  obtain ⟨rfl, rfl, rfl⟩ := trodAll_nil r4
  obtain rfl : args = #[v0, v1, v2, v3, v4] := by cases args; simp_all
  obtain ⟨rfl, rfl⟩ := trodVars_none hV
  have k0 := h0
  have lt0 : ∀ x ∈ p0, x.block < W.heap.size := by obtain ⟨m, hm⟩ := k0; exact DataW.trod_lt m _ _ _ hm
  obtain ⟨m0, hm0⟩ := h0
  obtain ⟨sa0, sl0, sc0, rfl⟩ := okWide_slice Try.underlying27 (hval 0 27 _ rfl rfl)
  obtain ⟨l0, u0, e0, s0⟩ := opens27 _ enc W _ _ m0 _ _ hm0
  obtain rfl : Value.slice sa0 sl0 sc0 = u0 := by simpa [Value.cells] using e0
  have k1 := h1
  have lt1 : ∀ x ∈ p1, x.block < W.heap.size := by obtain ⟨m, hm⟩ := k1; exact DataW.trod_lt m _ _ _ hm
  obtain ⟨m1, hm1⟩ := h1
  obtain ⟨sa1, sl1, sc1, rfl⟩ := okWide_slice Try.underlying28 (hval 1 28 _ rfl rfl)
  obtain ⟨l1, u1, e1, s1⟩ := opens28 _ enc W _ _ m1 _ _ hm1
  obtain rfl : Value.slice sa1 sl1 sc1 = u1 := by simpa [Value.cells] using e1
  have k2 := h2
  have lt2 : ∀ x ∈ p2, x.block < W.heap.size := by obtain ⟨m, hm⟩ := k2; exact DataW.trod_lt m _ _ _ hm
  obtain ⟨m2, hm2⟩ := h2
  obtain ⟨g2, rfl, _⟩ := okWide_struct Try.underlying34 (hval 2 34 _ rfl rfl)
  obtain ⟨x2, rd2⟩ := opens34 _ enc W _ _ m2 _ _ hm2
  obtain rfl : g2 = #[.int .i64 x2.kind, .int .i64 x2.n] := Array.ext' (by simpa [Value.cells] using rd2.1)
  have k3 := h3
  have lt3 : ∀ x ∈ p3, x.block < W.heap.size := by obtain ⟨m, hm⟩ := k3; exact DataW.trod_lt m _ _ _ hm
  obtain ⟨m3, hm3⟩ := h3
  obtain ⟨z3, rfl⟩ := okWide_int Try.underlying3 (hval 3 3 _ rfl rfl)
  obtain ⟨n3, e3, s3⟩ := opens3 _ enc W _ _ m3 _ _ hm3
  obtain rfl : z3 = n3 := by simpa [Value.cells] using e3
  have k4 := h4
  have lt4 : ∀ x ∈ p4, x.block < W.heap.size := by obtain ⟨m, hm⟩ := k4; exact DataW.trod_lt m _ _ _ hm
  obtain ⟨m4, hm4⟩ := h4
  obtain ⟨sa4, sl4, sc4, rfl⟩ := okWide_slice Try.underlying27 (hval 4 27 _ rfl rfl)
  obtain ⟨l4, u4, e4, s4⟩ := opens27 _ enc W _ _ m4 _ _ hm4
  obtain rfl : Value.slice sa4 sl4 sc4 = u4 := by simpa [Value.cells] using e4
  clear hA0 hval0
  refine (cellSays_calls [] W (fun x hx => absurd hx List.not_mem_nil) _ _ _ _ _ _ _ _ _ s0 s1 s4).mono fun e W2 ⟨he, bel0⟩ => ?_
  have bel := Grow.below bel0
  subst he
  exact ⟨_, rfl, _, _, _, [], _, [], hW2, trodAll_mk1 (shut_bool Try.underlying4 _), (trodAll_cons_mk (Below.trod laidOut (by kernel_rfl) (of_decide_eq_true (by kernel_rfl)) k0 bel lt0) (trodAll_cons_mk (Below.trod laidOut (by kernel_rfl) (of_decide_eq_true (by kernel_rfl)) k1 bel lt1) (trodAll_cons_mk (Below.trod laidOut (by kernel_rfl) (of_decide_eq_true (by kernel_rfl)) k2 bel lt2) (trodAll_cons_mk (Below.trod laidOut (by kernel_rfl) (of_decide_eq_true (by kernel_rfl)) k3 bel lt3) (trodAll_cons_mk (Below.trod laidOut (by kernel_rfl) (of_decide_eq_true (by kernel_rfl)) k4 bel lt4) trodAll_mk0))))), rfl, bel.frame _, fun h => by cases h⟩
theorem over : Rows.cellSaysRow.holds Try.pinned (OpenSpec.ofChange Rows.cellSaysSpec) :=
  OpenClaim.holds_of_wide 7 Try.f7 rfl rfl rfl rfl rfl rfl rfl ⟨rfl, rfl, rfl, rfl, rfl⟩ rfl rfl rfl rfl rfl (by kernel_rfl) Try.func7 (by kernel_rfl)
    (of_decide_eq_true (by kernel_rfl)) (by unfold Func.isWrapper; first | (rw [if_pos (by decide +kernel)]; kernel_rfl) | (rw [if_neg (by decide +kernel)]; exact ⟨rfl, rfl⟩))
    (fun os started H enc _ => lifted os started H enc)
theorem proved : Rows.CellSaysSaid := over
end cellSaysLaw
#print axioms cellSaysLaw.proved
end Go.Proofs.Ytkjajililnbimaa
