/- The law VmSwept of this seat: for every input it returns true; no condition but what the card says of the listed variables. -/
import Derived.Test.YtfclkapelkhlpaaGreatDoorVmSweptTh
import Derived.Test.YtfclkapelkhlpaaGreatDoorRows
import Derived.Test.YtfclkapelkhlpaaGreatDoorCards
import Derived.Test.YtfclkapelkhlpaaGreatDoorTie

import Derived.ProofKit
import Derived.SevenTiedAt
import Derived.OpenShut
import Derived.ShutString
import Derived.ChangeOld
import Derived.Below
import Derived.WideShapes
set_option linter.unusedVariables false
set_option linter.unusedSimpArgs false
namespace Go.Proofs.YtfclkapelkhlpaaGreatDoor
open Go Go.Proofs Go.LX

namespace vmSweptLaw
open Go Go.Proofs Go.LX Go.ChangeShapes Go.WideShapes Go.ChangeAt Go.RowKit
open Go.ChangeMaps (open_string shut_string)
theorem sV : vw Tryz.prog 3 fT := OV Tryz.underlying3
theorem U9 : vw Tryz.prog 27 (qj fT) := rq Tryz.underlying27 (by kernel_rfl) sV
theorem Va : vw Tryz.prog 93 jD := by
  intro H enc w spare held fuel cs x h
  obtain ⟨hl, n, hf⟩ := vX Tryz.underlying93 h
  rw [show Tryz.prog.cellsOf 93 = 5 by kernel_rfl] at hl
  obtain ⟨d0, h0⟩ := fM (R := fT) (i := 0) hf rfl (by kernel_rfl) sV
  have e0 := cells_one (show (cs.drop 0).take 1 = [.int .i64 d0] from h0)
  obtain ⟨d1, h1⟩ := fM (R := fT) (i := 1) hf rfl (by kernel_rfl) sV
  have e1 := cells_one (show (cs.drop 1).take 1 = [.int .i64 d1] from h1)
  obtain ⟨d2, h2⟩ := fM (R := fT) (i := 2) hf rfl (by kernel_rfl) sV
  have e2 := cells_one (show (cs.drop 2).take 1 = [.int .i64 d2] from h2)
  obtain ⟨d3, h3⟩ := fM (R := fT) (i := 3) hf rfl (by kernel_rfl) sV
  have e3 := cells_one (show (cs.drop 3).take 1 = [.int .i64 d3] from h3)
  obtain ⟨d4, h4⟩ := fM (R := (qj fT)) (i := 4) hf rfl (by kernel_rfl) U9
  obtain ⟨u4, a4, s4⟩ := h4
  have e4 := cells_one (show (cs.drop 4).take 1 = [u4] from a4)
  obtain ⟨c0, t0, rfl, hl0⟩ := tC hl
  obtain ⟨c1, t1, rfl, hl1⟩ := tC hl0
  obtain ⟨c2, t2, rfl, hl2⟩ := tC hl1
  obtain ⟨c3, t3, rfl, hl3⟩ := tC hl2
  obtain ⟨c4, t4, rfl, hl4⟩ := tC hl3
  obtain rfl := List.eq_nil_of_length_eq_zero hl4
  simp at e0 e1 e2 e3 e4
  subst e0 e1 e2 e3 e4
  exact ⟨⟨d0, d1, d2, d3, d4⟩, ⟨_, rfl, s4⟩⟩
theorem Vb : vw Tryz.prog 55 (qj jD) := rq Tryz.underlying55 (by kernel_rfl) Va
theorem Vd : vw Tryz.prog 57 kF := by
  intro H enc w spare held fuel cs x h
  obtain ⟨hl, n, hf⟩ := vX Tryz.underlying57 h
  rw [show Tryz.prog.cellsOf 57 = 3 by kernel_rfl] at hl
  obtain ⟨d0, h0⟩ := fM (R := fT) (i := 0) hf rfl (by kernel_rfl) sV
  have e0 := cells_one (show (cs.drop 0).take 1 = [.int .i64 d0] from h0)
  obtain ⟨d1, h1⟩ := fM (R := fT) (i := 1) hf rfl (by kernel_rfl) sV
  have e1 := cells_one (show (cs.drop 1).take 1 = [.int .i64 d1] from h1)
  obtain ⟨d2, h2⟩ := fM (R := (qj jD)) (i := 2) hf rfl (by kernel_rfl) Vb
  obtain ⟨u2, a2, s2⟩ := h2
  have e2 := cells_one (show (cs.drop 2).take 1 = [u2] from a2)
  obtain ⟨c0, t0, rfl, hl0⟩ := tC hl
  obtain ⟨c1, t1, rfl, hl1⟩ := tC hl0
  obtain ⟨c2, t2, rfl, hl2⟩ := tC hl1
  obtain rfl := List.eq_nil_of_length_eq_zero hl2
  simp at e0 e1 e2
  subst e0 e1 e2
  exact ⟨⟨d0, d1, d2⟩, ⟨_, rfl, s2⟩⟩
theorem Ve : vw Tryz.prog 22 (qj kF) := rq Tryz.underlying22 (by kernel_rfl) Vd
theorem Vf : vw Tryz.prog 51 aM := by
  intro H enc w spare held fuel cs x h
  obtain ⟨hl, n, hf⟩ := vX Tryz.underlying51 h
  rw [show Tryz.prog.cellsOf 51 = 2 by kernel_rfl] at hl
  obtain ⟨d0, h0⟩ := fM (R := fT) (i := 0) hf rfl (by kernel_rfl) sV
  have e0 := cells_one (show (cs.drop 0).take 1 = [.int .i64 d0] from h0)
  obtain ⟨d1, h1⟩ := fM (R := fT) (i := 1) hf rfl (by kernel_rfl) sV
  have e1 := cells_one (show (cs.drop 1).take 1 = [.int .i64 d1] from h1)
  obtain ⟨c0, t0, rfl, hl0⟩ := tC hl
  obtain ⟨c1, t1, rfl, hl1⟩ := tC hl0
  obtain rfl := List.eq_nil_of_length_eq_zero hl1
  simp at e0 e1
  subst e0 e1
  exact ⟨⟨d0, d1⟩, rfl⟩
theorem OQ : vw Tryz.prog 47 (qj aM) := rq Tryz.underlying47 (by kernel_rfl) Vf
theorem Vg : vw Tryz.prog 49 fo := by
  intro H enc w spare held fuel cs x h
  obtain ⟨hl, n, hf⟩ := vX Tryz.underlying49 h
  rw [show Tryz.prog.cellsOf 49 = 4 by kernel_rfl] at hl
  obtain ⟨d0, h0⟩ := fM (R := fT) (i := 0) hf rfl (by kernel_rfl) sV
  have e0 := cells_one (show (cs.drop 0).take 1 = [.int .i64 d0] from h0)
  obtain ⟨d1, h1⟩ := fM (R := fT) (i := 1) hf rfl (by kernel_rfl) sV
  have e1 := cells_one (show (cs.drop 1).take 1 = [.int .i64 d1] from h1)
  obtain ⟨d2, h2⟩ := fM (R := (qj aM)) (i := 2) hf rfl (by kernel_rfl) OQ
  obtain ⟨u2, a2, s2⟩ := h2
  have e2 := cells_one (show (cs.drop 2).take 1 = [u2] from a2)
  obtain ⟨d3, h3⟩ := fM (R := fT) (i := 3) hf rfl (by kernel_rfl) sV
  have e3 := cells_one (show (cs.drop 3).take 1 = [.int .i64 d3] from h3)
  obtain ⟨c0, t0, rfl, hl0⟩ := tC hl
  obtain ⟨c1, t1, rfl, hl1⟩ := tC hl0
  obtain ⟨c2, t2, rfl, hl2⟩ := tC hl1
  obtain ⟨c3, t3, rfl, hl3⟩ := tC hl2
  obtain rfl := List.eq_nil_of_length_eq_zero hl3
  simp at e0 e1 e2 e3
  subst e0 e1 e2 e3
  exact ⟨⟨d0, d1, d2, d3⟩, ⟨_, rfl, s2⟩⟩
theorem Vh : vw Tryz.prog 23 (qj fo) := rq Tryz.underlying23 (by kernel_rfl) Vg
theorem Vi : vw Tryz.prog 24 (qj (qj aM)) := rq Tryz.underlying24 (by kernel_rfl) OQ
theorem Vj : vw Tryz.prog 26 QV := by
  intro H enc w spare held fuel cs x h
  obtain ⟨hl, n, hf⟩ := vX Tryz.underlying26 h
  rw [show Tryz.prog.cellsOf 26 = 4 by kernel_rfl] at hl
  obtain ⟨d0, h0⟩ := fM (R := (qj fo)) (i := 0) hf rfl (by kernel_rfl) Vh
  obtain ⟨u0, a0, s0⟩ := h0
  have e0 := cells_one (show (cs.drop 0).take 1 = [u0] from a0)
  obtain ⟨d1, h1⟩ := fM (R := (qj (qj aM))) (i := 1) hf rfl (by kernel_rfl) Vi
  obtain ⟨u1, a1, s1⟩ := h1
  have e1 := cells_one (show (cs.drop 1).take 1 = [u1] from a1)
  obtain ⟨d2, h2⟩ := fM (R := fT) (i := 2) hf rfl (by kernel_rfl) sV
  have e2 := cells_one (show (cs.drop 2).take 1 = [.int .i64 d2] from h2)
  obtain ⟨d3, h3⟩ := fM (R := fT) (i := 3) hf rfl (by kernel_rfl) sV
  have e3 := cells_one (show (cs.drop 3).take 1 = [.int .i64 d3] from h3)
  obtain ⟨c0, t0, rfl, hl0⟩ := tC hl
  obtain ⟨c1, t1, rfl, hl1⟩ := tC hl0
  obtain ⟨c2, t2, rfl, hl2⟩ := tC hl1
  obtain ⟨c3, t3, rfl, hl3⟩ := tC hl2
  obtain rfl := List.eq_nil_of_length_eq_zero hl3
  simp at e0 e1 e2 e3
  subst e0 e1 e2 e3
  exact ⟨⟨d0, d1, d2, d3⟩, ⟨_, _, rfl, s0, s1⟩⟩
theorem own : ownKnob Tryz.prog.godebug = none := by kernel_rfl
theorem laidOut : laidOutB Tryz.prog = true := by kernel_rfl
set_option maxRecDepth 100000 in
theorem lifted (os : Os) (started : os.Started) (H : Type) (enc : TypeId × Value → H) :
    ReturnsInHanded {} Tryz.checked os 7 .any (fun w args => (Rows.vmSweptSpec.pre enc Tryz.prog Tryz.f7 [] false w args ∧ laidMetH Tryz.prog EX w) ∧ sizedMet enc Tryz.prog Tryz.f7 (OpenSpec.ofChange Rows.vmSweptSpec) false w args) (Rows.vmSweptSpec.post enc Tryz.prog Tryz.f7 false true false false) := by
  refine Ju (C := Tryz.checked) (X := fun w _ => laidMetH Tryz.prog EX w) (fun _ _ _ hh h => h.of_heap hh) own started (by kernel_rfl) Tryz.func7
    (ChangeSpec.witness_shaped (enc := enc) (C := Tryz.checked) (os := os) (X := fun w _ => laidMetH Tryz.prog EX w) false (QR (World.doorLaid Tryz.prog 400 os) 5 (KA Go.Pinned.utf8First)) #[.slice none 0 0, (.agg #[(.slice none 0 0), (.slice none 0 0), (.int .i64 (0)), (.int .i64 (0))])] 8 rfl (World.shaped_of_RefB (by kernel_rfl) (by kernel_rfl)) (by kernel_rfl) (by kernel_rfl) (by kernel_rfl) (TH os _)) ?_
  intro W base args ds gs before hval0 hW hcnd hL hshape
  have hT := U8 hL hshape
  have hval : ∀ (j : Nat) t v, Tryz.f7.params[j]? = some t → args[j]? = some v → Value.okWide Tryz.prog W .any base t v := hval0
  have hW2 := hW
  obtain ⟨p, q, hA0, hV, rfl, hfz, hnd⟩ := hW
  have hA : DataW.TrodAll enc Tryz.prog W 0 (fun _ => true) true Tryz.f7.params.toList args.toList ds p := hA0
  rw [Tryz.params7] at hA hval
  obtain ⟨v0, fw, d0, ds0, p0, q0, hargs, rfl, rfl, h0, r0⟩ := trodAll_cons hA
  obtain ⟨v1, vs1, d1, ds1, p1, q1, rfl, rfl, rfl, h1, r1⟩ := trodAll_cons r0
  obtain ⟨rfl, rfl, rfl⟩ := trodAll_nil r1
  obtain rfl : args = #[v0, v1] := by cases args; simp_all
  obtain ⟨rfl, rfl⟩ := trodVars_none hV
  have k0 := h0
  have lt0 : ∀ x ∈ p0, x.block < W.heap.size := by obtain ⟨m, hm⟩ := k0; exact DataW.trod_lt m _ _ _ hm
  obtain ⟨m0, hm0⟩ := h0
  obtain ⟨sa0, sl0, sc0, rfl⟩ := okWide_slice Tryz.underlying22 (hval 0 22 _ rfl rfl)
  obtain ⟨l0, u0, e0, s0⟩ := Ve _ enc W _ _ m0 _ _ hm0
  obtain rfl : Value.slice sa0 sl0 sc0 = u0 := by simpa [Value.cells] using e0
  have k1 := h1
  have lt1 : ∀ x ∈ p1, x.block < W.heap.size := by obtain ⟨m, hm⟩ := k1; exact DataW.trod_lt m _ _ _ hm
  obtain ⟨m1, hm1⟩ := h1
  obtain ⟨g1, rfl, _⟩ := okWide_struct Tryz.underlying26 (hval 1 26 _ rfl rfl)
  obtain ⟨x1, rd1⟩ := Vj _ enc W _ _ m1 _ _ hm1
  obtain ⟨q1_0, q1_1, c1, s1_0, s1_1⟩ := KD rd1
  obtain rfl : g1 = #[q1_0, q1_1, .int .i64 x1.status, .int .i64 x1.aV] := Array.ext' (by simpa [Value.cells] using c1)
  clear hA0 hval0
  obtain ⟨N, hN⟩ := vmSwept _ _
  refine (zA N W BE nobody hT _ l0 s0 x1 q1_0 q1_1 s1_0 s1_1 true (hN)).mono fun e W2 ⟨bel0, he⟩ => ?_
  have bel := Grow.below bel0
  subst he
  exact ⟨_, rfl, _, _, _, [], _, [], hW2, trodAll_mk1 (shut_bool Tryz.underlying4 _), (trodAll_cons_mk (Below.trod laidOut (by kernel_rfl) (of_decide_eq_true (by kernel_rfl)) k0 bel lt0) (trodAll_cons_mk (Below.trod laidOut (by kernel_rfl) (of_decide_eq_true (by kernel_rfl)) k1 bel lt1) trodAll_mk0)), rfl, bel.frame _, fun h => by cases h⟩
theorem over : Rows.vmSweptRow.holds Tryz.pinned (OpenSpec.ofChange Rows.vmSweptSpec) :=
  OpenClaim.holds_of_wide 7 Tryz.f7 rfl rfl rfl rfl rfl rfl rfl ⟨rfl, rfl, rfl, rfl, rfl⟩ rfl rfl rfl rfl rfl (by kernel_rfl) Tryz.func7 (by kernel_rfl)
    (of_decide_eq_true (by kernel_rfl)) (by unfold Func.isWrapper; first | (rw [if_pos (by decide +kernel)]; kernel_rfl) | (rw [if_neg (by decide +kernel)]; exact ⟨rfl, rfl⟩))
    (fun os started H enc _ => lifted os started H enc)
theorem proved : Rows.VmSweptCardSaid :=
  Claim7.holds_tied_plain_at .later [] Rows.vmSweptCard.laidKinds true Rows.vmSweptCard.stood.harness true over (fun _ h => by cases h) (by kernel_rfl) (fun _ h => by cases h) vmSwept_row_tie rfl ⟨rfl, rfl⟩ (by kernel_rfl) rfl
    (fun f fn hf hfn => by
      obtain rfl : f = 7 := (Option.some.inj ((show Tryz.prog.funcNamed Rows.vmSweptRow.func = some 7 by kernel_rfl).symm.trans hf)).symm
      obtain rfl : fn = Tryz.f7 := (Option.some.inj (Tryz.func7.symm.trans hfn)).symm
      refine ⟨by kernel_rfl, fun j t ht => ?_⟩
      rw [Tryz.params7] at ht
      have hm : t ∈ ([22, 26] : List TypeId) := List.mem_of_getElem? (by simpa using ht)
      have hall : (([22, 26] : List TypeId).all fun t => !Tryz.prog.wantsStandIn t) = true := by kernel_rfl
      have hq := List.all_eq_true.1 hall t hm
      show Tryz.prog.wantsStandIn t = false
      simpa using hq)
    (by kernel_rfl)
end vmSweptLaw
#print axioms vmSweptLaw.proved
end Go.Proofs.YtfclkapelkhlpaaGreatDoor
