/- The law VmSays of this seat: for every input it returns true; no condition but what the card says of the listed variables. -/
import Derived.Test.YtfclkapelkhlpaaGreatDoorVmSaysTj
import Derived.Test.YtfclkapelkhlpaaGreatDoorRows
import Derived.Test.YtfclkapelkhlpaaGreatDoorCards
import Derived.Test.YtfclkapelkhlpaaGreatDoorTie

import Derived.ProofKit
import Derived.SevenTiedAt
import Derived.OpenShut
import Derived.ShutString
import Derived.ChangeOld
import Derived.Below
import Derived.WideShapes
set_option linter.unusedVariables false
set_option linter.unusedSimpArgs false
namespace Go.Proofs.YtfclkapelkhlpaaGreatDoor
open Go Go.Proofs Go.LX

namespace vmSaysLaw
open Go Go.Proofs Go.LX Go.ChangeShapes Go.WideShapes Go.ChangeAt Go.RowKit
open Go.ChangeMaps (open_string shut_string)
theorem yA : Ai Tryz.prog 3 eY := WA Tryz.underlying3
theorem opens27 : Ai Tryz.prog 27 (l9 eY) := wZ Tryz.underlying27 (by kernel_rfl) yA
theorem opens93 : Ai Tryz.prog 93 kU := by
  intro H enc w spare held fuel cs x h
  obtain ⟨hl, n, hf⟩ := Bc Tryz.underlying93 h
  rw [show Tryz.prog.cellsOf 93 = 5 by kernel_rfl] at hl
  obtain ⟨d0, h0⟩ := iX (R := eY) (i := 0) hf rfl (by kernel_rfl) yA
  have e0 := cells_one (show (cs.drop 0).take 1 = [.int .i64 d0] from h0)
  obtain ⟨d1, h1⟩ := iX (R := eY) (i := 1) hf rfl (by kernel_rfl) yA
  have e1 := cells_one (show (cs.drop 1).take 1 = [.int .i64 d1] from h1)
  obtain ⟨d2, h2⟩ := iX (R := eY) (i := 2) hf rfl (by kernel_rfl) yA
  have e2 := cells_one (show (cs.drop 2).take 1 = [.int .i64 d2] from h2)
  obtain ⟨d3, h3⟩ := iX (R := eY) (i := 3) hf rfl (by kernel_rfl) yA
  have e3 := cells_one (show (cs.drop 3).take 1 = [.int .i64 d3] from h3)
  obtain ⟨d4, h4⟩ := iX (R := (l9 eY)) (i := 4) hf rfl (by kernel_rfl) opens27
  obtain ⟨u4, a4, s4⟩ := h4
  have e4 := cells_one (show (cs.drop 4).take 1 = [u4] from a4)
  obtain ⟨c0, t0, rfl, hl0⟩ := yC hl
  obtain ⟨c1, t1, rfl, hl1⟩ := yC hl0
  obtain ⟨c2, t2, rfl, hl2⟩ := yC hl1
  obtain ⟨c3, t3, rfl, hl3⟩ := yC hl2
  obtain ⟨c4, t4, rfl, hl4⟩ := yC hl3
  obtain rfl := List.eq_nil_of_length_eq_zero hl4
  simp at e0 e1 e2 e3 e4
  subst e0 e1 e2 e3 e4
  exact ⟨⟨d0, d1, d2, d3, d4⟩, ⟨_, rfl, s4⟩⟩
theorem opens55 : Ai Tryz.prog 55 (l9 kU) := wZ Tryz.underlying55 (by kernel_rfl) opens93
theorem opens57 : Ai Tryz.prog 57 jE := by
  intro H enc w spare held fuel cs x h
  obtain ⟨hl, n, hf⟩ := Bc Tryz.underlying57 h
  rw [show Tryz.prog.cellsOf 57 = 3 by kernel_rfl] at hl
  obtain ⟨d0, h0⟩ := iX (R := eY) (i := 0) hf rfl (by kernel_rfl) yA
  have e0 := cells_one (show (cs.drop 0).take 1 = [.int .i64 d0] from h0)
  obtain ⟨d1, h1⟩ := iX (R := eY) (i := 1) hf rfl (by kernel_rfl) yA
  have e1 := cells_one (show (cs.drop 1).take 1 = [.int .i64 d1] from h1)
  obtain ⟨d2, h2⟩ := iX (R := (l9 kU)) (i := 2) hf rfl (by kernel_rfl) opens55
  obtain ⟨u2, a2, s2⟩ := h2
  have e2 := cells_one (show (cs.drop 2).take 1 = [u2] from a2)
  obtain ⟨c0, t0, rfl, hl0⟩ := yC hl
  obtain ⟨c1, t1, rfl, hl1⟩ := yC hl0
  obtain ⟨c2, t2, rfl, hl2⟩ := yC hl1
  obtain rfl := List.eq_nil_of_length_eq_zero hl2
  simp at e0 e1 e2
  subst e0 e1 e2
  exact ⟨⟨d0, d1, d2⟩, ⟨_, rfl, s2⟩⟩
theorem opens22 : Ai Tryz.prog 22 (l9 jE) := wZ Tryz.underlying22 (by kernel_rfl) opens57
theorem opens51 : Ai Tryz.prog 51 bz := by
  intro H enc w spare held fuel cs x h
  obtain ⟨hl, n, hf⟩ := Bc Tryz.underlying51 h
  rw [show Tryz.prog.cellsOf 51 = 2 by kernel_rfl] at hl
  obtain ⟨d0, h0⟩ := iX (R := eY) (i := 0) hf rfl (by kernel_rfl) yA
  have e0 := cells_one (show (cs.drop 0).take 1 = [.int .i64 d0] from h0)
  obtain ⟨d1, h1⟩ := iX (R := eY) (i := 1) hf rfl (by kernel_rfl) yA
  have e1 := cells_one (show (cs.drop 1).take 1 = [.int .i64 d1] from h1)
  obtain ⟨c0, t0, rfl, hl0⟩ := yC hl
  obtain ⟨c1, t1, rfl, hl1⟩ := yC hl0
  obtain rfl := List.eq_nil_of_length_eq_zero hl1
  simp at e0 e1
  subst e0 e1
  exact ⟨⟨d0, d1⟩, rfl⟩
theorem Wy : Ai Tryz.prog 47 (l9 bz) := wZ Tryz.underlying47 (by kernel_rfl) opens51
theorem opens49 : Ai Tryz.prog 49 dL := by
  intro H enc w spare held fuel cs x h
  obtain ⟨hl, n, hf⟩ := Bc Tryz.underlying49 h
  rw [show Tryz.prog.cellsOf 49 = 4 by kernel_rfl] at hl
  obtain ⟨d0, h0⟩ := iX (R := eY) (i := 0) hf rfl (by kernel_rfl) yA
  have e0 := cells_one (show (cs.drop 0).take 1 = [.int .i64 d0] from h0)
  obtain ⟨d1, h1⟩ := iX (R := eY) (i := 1) hf rfl (by kernel_rfl) yA
  have e1 := cells_one (show (cs.drop 1).take 1 = [.int .i64 d1] from h1)
  obtain ⟨d2, h2⟩ := iX (R := (l9 bz)) (i := 2) hf rfl (by kernel_rfl) Wy
  obtain ⟨u2, a2, s2⟩ := h2
  have e2 := cells_one (show (cs.drop 2).take 1 = [u2] from a2)
  obtain ⟨d3, h3⟩ := iX (R := eY) (i := 3) hf rfl (by kernel_rfl) yA
  have e3 := cells_one (show (cs.drop 3).take 1 = [.int .i64 d3] from h3)
  obtain ⟨c0, t0, rfl, hl0⟩ := yC hl
  obtain ⟨c1, t1, rfl, hl1⟩ := yC hl0
  obtain ⟨c2, t2, rfl, hl2⟩ := yC hl1
  obtain ⟨c3, t3, rfl, hl3⟩ := yC hl2
  obtain rfl := List.eq_nil_of_length_eq_zero hl3
  simp at e0 e1 e2 e3
  subst e0 e1 e2 e3
  exact ⟨⟨d0, d1, d2, d3⟩, ⟨_, rfl, s2⟩⟩
theorem opens23 : Ai Tryz.prog 23 (l9 dL) := wZ Tryz.underlying23 (by kernel_rfl) opens49
theorem opens24 : Ai Tryz.prog 24 (l9 (l9 bz)) := wZ Tryz.underlying24 (by kernel_rfl) Wy
theorem Wz : Ai Tryz.prog 26 Zu := by
  intro H enc w spare held fuel cs x h
  obtain ⟨hl, n, hf⟩ := Bc Tryz.underlying26 h
  rw [show Tryz.prog.cellsOf 26 = 4 by kernel_rfl] at hl
  obtain ⟨d0, h0⟩ := iX (R := (l9 dL)) (i := 0) hf rfl (by kernel_rfl) opens23
  obtain ⟨u0, a0, s0⟩ := h0
  have e0 := cells_one (show (cs.drop 0).take 1 = [u0] from a0)
  obtain ⟨d1, h1⟩ := iX (R := (l9 (l9 bz))) (i := 1) hf rfl (by kernel_rfl) opens24
  obtain ⟨u1, a1, s1⟩ := h1
  have e1 := cells_one (show (cs.drop 1).take 1 = [u1] from a1)
  obtain ⟨d2, h2⟩ := iX (R := eY) (i := 2) hf rfl (by kernel_rfl) yA
  have e2 := cells_one (show (cs.drop 2).take 1 = [.int .i64 d2] from h2)
  obtain ⟨d3, h3⟩ := iX (R := eY) (i := 3) hf rfl (by kernel_rfl) yA
  have e3 := cells_one (show (cs.drop 3).take 1 = [.int .i64 d3] from h3)
  obtain ⟨c0, t0, rfl, hl0⟩ := yC hl
  obtain ⟨c1, t1, rfl, hl1⟩ := yC hl0
  obtain ⟨c2, t2, rfl, hl2⟩ := yC hl1
  obtain ⟨c3, t3, rfl, hl3⟩ := yC hl2
  obtain rfl := List.eq_nil_of_length_eq_zero hl3
  simp at e0 e1 e2 e3
  subst e0 e1 e2 e3
  exact ⟨⟨d0, d1, d2, d3⟩, ⟨_, _, rfl, s0, s1⟩⟩
theorem own : ownKnob Tryz.prog.godebug = none := by kernel_rfl
theorem laidOut : laidOutB Tryz.prog = true := by kernel_rfl
set_option maxRecDepth 100000 in
theorem lifted (os : Os) (started : os.Started) (H : Type) (enc : TypeId × Value → H) :
    ReturnsInHanded {} Tryz.checked os 8 .any (fun w args => (Rows.vmSaysSpec.pre enc Tryz.prog Tryz.f8 [] false w args ∧ laidMetH Tryz.prog Ll w) ∧ sizedMet enc Tryz.prog Tryz.f8 (OpenSpec.ofChange Rows.vmSaysSpec) false w args) (Rows.vmSaysSpec.post enc Tryz.prog Tryz.f8 false true false false) := by
  refine P8 (C := Tryz.checked) (X := fun w _ => laidMetH Tryz.prog Ll w) (fun _ _ _ hh h => h.of_heap hh) own started (by kernel_rfl) Tryz.func8
    (ChangeSpec.witness_shaped (enc := enc) (C := Tryz.checked) (os := os) (X := fun w _ => laidMetH Tryz.prog Ll w) false (Zq (World.doorLaid Tryz.prog 400 os) 5 (Ro Go.Pinned.utf8First)) #[.slice none 0 0, (.agg #[(.slice none 0 0), (.slice none 0 0), (I6 0), (I6 0)]), .int .i64 0, (.agg #[(.slice none 0 0), (.slice none 0 0), (I6 0), (I6 0)])] 8 rfl (World.shaped_of_RefB (by kernel_rfl) (by kernel_rfl)) (by kernel_rfl) (by kernel_rfl) (by kernel_rfl) (laid_met os _)) ?_
  intro W base args ds gs before hval0 hW hcnd hL hshape
  have hT := tabs_of hL hshape
  have hval : ∀ (j : Nat) t v, Tryz.f8.params[j]? = some t → args[j]? = some v → Value.okWide Tryz.prog W .any base t v := hval0
  have hW2 := hW
  obtain ⟨p, q, hA0, hV, rfl, hfz, hnd⟩ := hW
  have hA : DataW.TrodAll enc Tryz.prog W 0 (fun _ => true) true Tryz.f8.params.toList args.toList ds p := hA0
  rw [Tryz.params8] at hA hval
  obtain ⟨v0, iA, d0, ds0, p0, q0, hargs, rfl, rfl, h0, r0⟩ := trodAll_cons hA
  obtain ⟨v1, vs1, d1, ds1, p1, q1, rfl, rfl, rfl, h1, r1⟩ := trodAll_cons r0
  obtain ⟨v2, vs2, d2, ds2, p2, q2, rfl, rfl, rfl, h2, r2⟩ := trodAll_cons r1
  obtain ⟨v3, vs3, d3, ds3, p3, q3, rfl, rfl, rfl, h3, r3⟩ := trodAll_cons r2
  obtain ⟨rfl, rfl, rfl⟩ := trodAll_nil r3
  obtain rfl : args = #[v0, v1, v2, v3] := by cases args; simp_all
  obtain ⟨rfl, rfl⟩ := trodVars_none hV
  have k0 := h0
  have lt0 : ∀ x ∈ p0, x.block < W.heap.size := by obtain ⟨m, hm⟩ := k0; exact DataW.trod_lt m _ _ _ hm
  obtain ⟨m0, hm0⟩ := h0
  obtain ⟨sa0, sl0, sc0, rfl⟩ := okWide_slice Tryz.underlying22 (hval 0 22 _ rfl rfl)
  obtain ⟨l0, u0, e0, s0⟩ := opens22 _ enc W _ _ m0 _ _ hm0
  obtain rfl : Value.slice sa0 sl0 sc0 = u0 := by simpa [Value.cells] using e0
  have k1 := h1
  have lt1 : ∀ x ∈ p1, x.block < W.heap.size := by obtain ⟨m, hm⟩ := k1; exact DataW.trod_lt m _ _ _ hm
  obtain ⟨m1, hm1⟩ := h1
  obtain ⟨g1, rfl, _⟩ := okWide_struct Tryz.underlying26 (hval 1 26 _ rfl rfl)
  obtain ⟨x1, rd1⟩ := Wz _ enc W _ _ m1 _ _ hm1
  obtain ⟨q1_0, q1_1, c1, s1_0, s1_1⟩ := K5 rd1
  obtain rfl : g1 = #[q1_0, q1_1, .int .i64 x1.status, .int .i64 x1.aK] := Array.ext' (by simpa [Value.cells] using c1)
  have k2 := h2
  have lt2 : ∀ x ∈ p2, x.block < W.heap.size := by obtain ⟨m, hm⟩ := k2; exact DataW.trod_lt m _ _ _ hm
  obtain ⟨m2, hm2⟩ := h2
  obtain ⟨z2, rfl⟩ := okWide_int Tryz.underlying3 (hval 2 3 _ rfl rfl)
  have k3 := h3
  have lt3 : ∀ x ∈ p3, x.block < W.heap.size := by obtain ⟨m, hm⟩ := k3; exact DataW.trod_lt m _ _ _ hm
  obtain ⟨m3, hm3⟩ := h3
  obtain ⟨g3, rfl, _⟩ := okWide_struct Tryz.underlying26 (hval 3 26 _ rfl rfl)
  obtain ⟨x3, rd3⟩ := Wz _ enc W _ _ m3 _ _ hm3
  obtain ⟨q3_0, q3_1, c3, s3_0, s3_1⟩ := K5 rd3
  obtain rfl : g3 = #[q3_0, q3_1, .int .i64 x3.status, .int .i64 x3.aK] := Array.ext' (by simpa [Value.cells] using c3)
  clear hA0 hval0
  obtain ⟨N, hN⟩ := vmSays _ _ _ _
  refine (FU N W BE nobody hT _ l0 s0 x1 q1_0 q1_1 s1_0 s1_1 z2 x3 q3_0 q3_1 s3_0 s3_1 true (hN)).mono fun e W2 ⟨bel0, he⟩ => ?_
  have bel := Grow.below bel0
  subst he
  exact ⟨_, rfl, _, _, _, [], _, [], hW2, trodAll_mk1 (shut_bool Tryz.underlying4 _), (trodAll_cons_mk (Below.trod laidOut (by kernel_rfl) (oD (by kernel_rfl)) k0 bel lt0) (trodAll_cons_mk (Below.trod laidOut (by kernel_rfl) (oD (by kernel_rfl)) k1 bel lt1) (trodAll_cons_mk (Below.trod laidOut (by kernel_rfl) (oD (by kernel_rfl)) k2 bel lt2) (trodAll_cons_mk (Below.trod laidOut (by kernel_rfl) (oD (by kernel_rfl)) k3 bel lt3) trodAll_mk0)))), rfl, bel.frame _, fun h => by cases h⟩
theorem over : Rows.vmSaysRow.holds Tryz.pinned (OpenSpec.ofChange Rows.vmSaysSpec) :=
  OpenClaim.holds_of_wide 8 Tryz.f8 rfl rfl rfl rfl rfl rfl rfl ⟨rfl, rfl, rfl, rfl, rfl⟩ rfl rfl rfl rfl rfl (by kernel_rfl) Tryz.func8 (by kernel_rfl)
    (oD (by kernel_rfl)) (by unfold Func.isWrapper; first | (rw [if_pos (by decide +kernel)]; kernel_rfl) | (rw [if_neg (by decide +kernel)]; exact ⟨rfl, rfl⟩))
    (fun os started H enc _ => lifted os started H enc)
theorem proved : Rows.VmSaysCardSaid :=
  Claim7.holds_tied_plain_at .later [] Rows.vmSaysCard.laidKinds true Rows.vmSaysCard.stood.harness true over (fun _ h => by cases h) (by kernel_rfl) (fun _ h => by cases h) vmSays_row_tie rfl ⟨rfl, rfl⟩ (by kernel_rfl) rfl
    (fun f fn hf hfn => by
      obtain rfl : f = 8 := (fM ((show Tryz.prog.funcNamed Rows.vmSaysRow.func = some 8 by kernel_rfl).symm.trans hf)).symm
      obtain rfl : fn = Tryz.f8 := (fM (Tryz.func8.symm.trans hfn)).symm
      refine ⟨by kernel_rfl, fun j t ht => ?_⟩
      rw [Tryz.params8] at ht
      have hm : t ∈ ([22, 26, 3, 26] : List TypeId) := List.mem_of_getElem? (by simpa using ht)
      have hall : (([22, 26, 3, 26] : List TypeId).all fun t => !Tryz.prog.wantsStandIn t) = true := by kernel_rfl
      have hq := List.all_eq_true.1 hall t hm
      show Tryz.prog.wantsStandIn t = false
      simpa using hq)
    (by kernel_rfl)
end vmSaysLaw
#print axioms vmSaysLaw.proved
end Go.Proofs.YtfclkapelkhlpaaGreatDoor
