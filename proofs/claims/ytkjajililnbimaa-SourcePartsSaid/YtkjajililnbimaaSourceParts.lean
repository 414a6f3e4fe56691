/- The law SourceParts of this seat: for every input it returns true; no condition. -/
import Derived.Test.YtkjajililnbimaaRows
import Derived.Test.YtkjajililnbimaaSrpLaw
import Derived.ProofKit
import Derived.OpenShut
import Derived.ShutString
import Derived.ChangeOld
import Derived.Below
import Derived.WideShapes
set_option linter.unusedVariables false
set_option linter.unusedSimpArgs false
namespace Go.Proofs.Ytkjajililnbimaa
open Go Go.Proofs Go.LX

namespace sourcePartsLaw
open Go Go.Proofs Go.LX Go.ChangeShapes Go.WideShapes Go.ChangeAt Go.RowKit
open Go.ChangeMaps (open_string shut_string)
theorem opens3 : Opens Try.prog 3 rInt := opens_int Try.underlying3
theorem opens112 : Opens Try.prog 112 rTok := by
  intro H enc w spare held fuel cs x h
  obtain ⟨hl, n, hf⟩ := field_trod Try.underlying112 h
  rw [show Try.prog.cellsOf 112 = 2 by kernel_rfl] at hl
  obtain ⟨d0, h0⟩ := field_opens (R := rInt) (i := 0) hf rfl (by kernel_rfl) opens3
  have e0 := cells_one (show (cs.drop 0).take 1 = [.int .i64 d0] from h0)
  obtain ⟨d1, h1⟩ := field_opens (R := rInt) (i := 1) hf rfl (by kernel_rfl) opens3
  have e1 := cells_one (show (cs.drop 1).take 1 = [.int .i64 d1] from h1)
  obtain ⟨c0, t0, rfl, hl0⟩ := len_s hl
  obtain ⟨c1, t1, rfl, hl1⟩ := len_s hl0
  obtain rfl := List.eq_nil_of_length_eq_zero hl1
  simp at e0 e1
  subst e0 e1
  exact ⟨⟨d0, d1⟩, rfl⟩
theorem opens71 : Opens Try.prog 71 (rSl rTok) := opens_slice Try.underlying71 (by kernel_rfl) opens112
theorem opens82 : Opens Try.prog 82 rStmt := opens_of fun m => by
  induction m with
  | zero => intro H enc w spare held fuel cs x hfu h; obtain ⟨hl, n, hn, hf⟩ := field_trodTo Try.underlying82 h; omega
  | succ m ih =>
  intro H enc w spare held fuel cs x hfu h
  obtain ⟨hl, n, hn, hf⟩ := field_trodTo Try.underlying82 h
  rw [show Try.prog.cellsOf 82 = 6 by kernel_rfl] at hl
  obtain ⟨d0, h0⟩ := field_opensTo (R := rInt) (i := 0) hf rfl (by kernel_rfl) (opens3.to n)
  have e0 := cells_one (show (cs.drop 0).take 1 = [.int .i64 d0] from h0)
  obtain ⟨d1, h1⟩ := field_opensTo (R := rInt) (i := 1) hf rfl (by kernel_rfl) (opens3.to n)
  have e1 := cells_one (show (cs.drop 1).take 1 = [.int .i64 d1] from h1)
  obtain ⟨d2, h2⟩ := field_opensTo (R := (rSl rTok)) (i := 2) hf rfl (by kernel_rfl) (opens71.to n)
  obtain ⟨u2, a2, s2⟩ := h2
  have e2 := cells_one (show (cs.drop 2).take 1 = [u2] from a2)
  obtain ⟨d3, h3⟩ := field_opensTo (R := (rSl rTok)) (i := 3) hf rfl (by kernel_rfl) (opens71.to n)
  obtain ⟨u3, a3, s3⟩ := h3
  have e3 := cells_one (show (cs.drop 3).take 1 = [u3] from a3)
  obtain ⟨d4, h4⟩ := field_opensTo (R := (rSl rStmt)) (i := 4) hf rfl (by kernel_rfl) (opens_sliceTo Try.underlying76 (by kernel_rfl) (ih.le (by omega)))
  obtain ⟨u4, a4, s4⟩ := h4
  have e4 := cells_one (show (cs.drop 4).take 1 = [u4] from a4)
  obtain ⟨d5, h5⟩ := field_opensTo (R := (rSl rStmt)) (i := 5) hf rfl (by kernel_rfl) (opens_sliceTo Try.underlying76 (by kernel_rfl) (ih.le (by omega)))
  obtain ⟨u5, a5, s5⟩ := h5
  have e5 := cells_one (show (cs.drop 5).take 1 = [u5] from a5)
  obtain ⟨c0, t0, rfl, hl0⟩ := len_s hl
  obtain ⟨c1, t1, rfl, hl1⟩ := len_s hl0
  obtain ⟨c2, t2, rfl, hl2⟩ := len_s hl1
  obtain ⟨c3, t3, rfl, hl3⟩ := len_s hl2
  obtain ⟨c4, t4, rfl, hl4⟩ := len_s hl3
  obtain ⟨c5, t5, rfl, hl5⟩ := len_s hl4
  obtain rfl := List.eq_nil_of_length_eq_zero hl5
  simp at e0 e1 e2 e3 e4 e5
  subst e0 e1 e2 e3 e4 e5
  exact ⟨⟨d0, d1, d2, d3, d4, d5⟩, rStmt_mk ⟨_, _, _, _, rfl, s2, s3, s4, s5⟩⟩
theorem opens76 : Opens Try.prog 76 (rSl rStmt) := opens_slice Try.underlying76 (by kernel_rfl) opens82
theorem opens78 : Opens Try.prog 78 rFun := by
  intro H enc w spare held fuel cs x h
  obtain ⟨hl, n, hf⟩ := field_trod Try.underlying78 h
  rw [show Try.prog.cellsOf 78 = 3 by kernel_rfl] at hl
  obtain ⟨d0, h0⟩ := field_opens (R := rInt) (i := 0) hf rfl (by kernel_rfl) opens3
  have e0 := cells_one (show (cs.drop 0).take 1 = [.int .i64 d0] from h0)
  obtain ⟨d1, h1⟩ := field_opens (R := rInt) (i := 1) hf rfl (by kernel_rfl) opens3
  have e1 := cells_one (show (cs.drop 1).take 1 = [.int .i64 d1] from h1)
  obtain ⟨d2, h2⟩ := field_opens (R := (rSl rStmt)) (i := 2) hf rfl (by kernel_rfl) opens76
  obtain ⟨u2, a2, s2⟩ := h2
  have e2 := cells_one (show (cs.drop 2).take 1 = [u2] from a2)
  obtain ⟨c0, t0, rfl, hl0⟩ := len_s hl
  obtain ⟨c1, t1, rfl, hl1⟩ := len_s hl0
  obtain ⟨c2, t2, rfl, hl2⟩ := len_s hl1
  obtain rfl := List.eq_nil_of_length_eq_zero hl2
  simp at e0 e1 e2
  subst e0 e1 e2
  exact ⟨⟨d0, d1, d2⟩, ⟨_, rfl, s2⟩⟩
theorem opens70 : Opens Try.prog 70 (rSl rFun) := opens_slice Try.underlying70 (by kernel_rfl) opens78
theorem own : ownKnob Try.prog.godebug = none := by kernel_rfl
theorem laidOut : laidOutB Try.prog = true := by kernel_rfl
set_option maxRecDepth 100000 in
theorem lifted (os : Os) (started : os.Started) (H : Type) (enc : TypeId × Value → H) :
    ReturnsInHanded {} Try.checked os 11 .any (Rows.sourcePartsSpec.pre6 enc Try.prog Try.f11 Rows.sourcePartsRow.domain false) (Rows.sourcePartsSpec.post enc Try.prog Try.f11 false true false false) := by
  refine returnsInHanded_of_change (C := Try.checked) own started (by kernel_rfl) Try.func11
    (ChangeSpec.witness6 (enc := enc) (C := Try.checked) false ⟨#[], #[.slice none 0 0, .int .i64 0, .int .i64 0], []⟩ 8 (by kernel_rfl) (by kernel_rfl) (by kernel_rfl) (by kernel_rfl)) ?_
  intro W base args ds gs before hval0 hW hcnd hreach
  have hval : ∀ (j : Nat) t v, Try.f11.params[j]? = some t → args[j]? = some v → Value.okWide Try.prog W .any base t v := hval0
  have hW2 := hW
  obtain ⟨p, q, hA0, hV, rfl, hfz, hnd⟩ := hW
  have hA : DataW.TrodAll enc Try.prog W 0 (fun _ => true) true Try.f11.params.toList args.toList ds p := hA0
  rw [Try.params11] at hA hval
  obtain ⟨v0, vs0, d0, ds0, p0, q0, hargs, rfl, rfl, h0, r0⟩ := trodAll_cons hA
  obtain ⟨v1, vs1, d1, ds1, p1, q1, rfl, rfl, rfl, h1, r1⟩ := trodAll_cons r0
  obtain ⟨v2, vs2, d2, ds2, p2, q2, rfl, rfl, rfl, h2, r2⟩ := trodAll_cons r1
  obtain ⟨rfl, rfl, rfl⟩ := trodAll_nil r2
  obtain rfl : args = #[v0, v1, v2] := by cases args; simp_all
  obtain ⟨rfl, rfl⟩ := trodVars_none hV
  have k0 := h0
  have lt0 : ∀ x ∈ p0, x.block < W.heap.size := by obtain ⟨m, hm⟩ := k0; exact DataW.trod_lt m _ _ _ hm
  obtain ⟨m0, hm0⟩ := h0
  obtain ⟨sa0, sl0, sc0, rfl⟩ := okWide_slice Try.underlying70 (hval 0 70 _ rfl rfl)
  obtain ⟨l0, u0, e0, s0⟩ := opens70 _ enc W _ _ m0 _ _ hm0
  obtain rfl : Value.slice sa0 sl0 sc0 = u0 := by simpa [Value.cells] using e0
  have k1 := h1
  have lt1 : ∀ x ∈ p1, x.block < W.heap.size := by obtain ⟨m, hm⟩ := k1; exact DataW.trod_lt m _ _ _ hm
  obtain ⟨m1, hm1⟩ := h1
  obtain ⟨z1, rfl⟩ := okWide_int Try.underlying3 (hval 1 3 _ rfl rfl)
  have k2 := h2
  have lt2 : ∀ x ∈ p2, x.block < W.heap.size := by obtain ⟨m, hm⟩ := k2; exact DataW.trod_lt m _ _ _ hm
  obtain ⟨m2, hm2⟩ := h2
  obtain ⟨z2, rfl⟩ := okWide_int Try.underlying3 (hval 2 3 _ rfl rfl)
  clear hA0 hval0
  obtain ⟨N, hN⟩ := sourceParts _ _ _
  refine (wandererlaw_SourceParts_c N W BE nobody _ l0 s0 z1 z2 true (hN)).mono fun e W2 ⟨bel0, he⟩ => ?_
  have bel := Grow.below bel0
  subst he
  exact ⟨_, rfl, _, _, _, [], _, [], hW2, trodAll_mk1 (shut_bool Try.underlying4 _), (trodAll_cons_mk (Below.trod laidOut (by kernel_rfl) (of_decide_eq_true (by kernel_rfl)) k0 bel lt0) (trodAll_cons_mk (Below.trod laidOut (by kernel_rfl) (of_decide_eq_true (by kernel_rfl)) k1 bel lt1) (trodAll_cons_mk (Below.trod laidOut (by kernel_rfl) (of_decide_eq_true (by kernel_rfl)) k2 bel lt2) trodAll_mk0))), rfl, bel.frame _, fun h => by cases h⟩
theorem over : Rows.sourcePartsRow.holds Try.pinned (OpenSpec.ofChange Rows.sourcePartsSpec) :=
  OpenClaim.holds_of_wide 11 Try.f11 rfl rfl rfl rfl rfl rfl rfl ⟨rfl, rfl, rfl, rfl, rfl⟩ rfl rfl rfl rfl rfl (by kernel_rfl) Try.func11 (by kernel_rfl)
    (of_decide_eq_true (by kernel_rfl)) (by unfold Func.isWrapper; first | (rw [if_pos (by decide +kernel)]; kernel_rfl) | (rw [if_neg (by decide +kernel)]; exact ⟨rfl, rfl⟩))
    (fun os started H enc _ => lifted os started H enc)
theorem proved : Rows.SourcePartsSaid := over
end sourcePartsLaw
#print axioms sourcePartsLaw.proved
end Go.Proofs.Ytkjajililnbimaa
