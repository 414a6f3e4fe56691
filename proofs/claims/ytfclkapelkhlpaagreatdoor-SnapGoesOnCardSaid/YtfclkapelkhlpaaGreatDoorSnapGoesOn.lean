/- The law SnapGoesOn of this seat: for every input it returns true; no condition but what the card says of the listed variables. -/
import Derived.Test.YtfclkapelkhlpaaGreatDoorSnapGoesOnTh
import Derived.Test.YtfclkapelkhlpaaGreatDoorRows
import Derived.Test.YtfclkapelkhlpaaGreatDoorCards
import Derived.Test.YtfclkapelkhlpaaGreatDoorTie

import Derived.ProofKit
import Derived.SevenTiedAt
import Derived.OpenShut
import Derived.ShutString
import Derived.ChangeOld
import Derived.Below
import Derived.WideShapes
set_option linter.unusedVariables false
set_option linter.unusedSimpArgs false
namespace Go.Proofs.YtfclkapelkhlpaaGreatDoor
open Go Go.Proofs Go.LX

namespace snapGoesOnLaw
open Go Go.Proofs Go.LX Go.ChangeShapes Go.WideShapes Go.ChangeAt Go.RowKit
open Go.ChangeMaps (open_string shut_string)
theorem vD : xM Tryz.prog 3 dA := Tc Tryz.underlying3
theorem ZK : xM Tryz.prog 27 (oV dA) := tT Tryz.underlying27 (by kernel_rfl) vD
theorem ZL : xM Tryz.prog 93 jK := by
  intro H enc w spare held fuel cs x h
  obtain ⟨hl, n, hf⟩ := yu Tryz.underlying93 h
  rw [show Tryz.prog.cellsOf 93 = 5 by kernel_rfl] at hl
  obtain ⟨d0, h0⟩ := fJ (R := dA) (i := 0) hf rfl (by kernel_rfl) vD
  have e0 := cells_one (show (cs.drop 0).take 1 = [.int .i64 d0] from h0)
  obtain ⟨d1, h1⟩ := fJ (R := dA) (i := 1) hf rfl (by kernel_rfl) vD
  have e1 := cells_one (show (cs.drop 1).take 1 = [.int .i64 d1] from h1)
  obtain ⟨d2, h2⟩ := fJ (R := dA) (i := 2) hf rfl (by kernel_rfl) vD
  have e2 := cells_one (show (cs.drop 2).take 1 = [.int .i64 d2] from h2)
  obtain ⟨d3, h3⟩ := fJ (R := dA) (i := 3) hf rfl (by kernel_rfl) vD
  have e3 := cells_one (show (cs.drop 3).take 1 = [.int .i64 d3] from h3)
  obtain ⟨d4, h4⟩ := fJ (R := (oV dA)) (i := 4) hf rfl (by kernel_rfl) ZK
  obtain ⟨u4, a4, s4⟩ := h4
  have e4 := cells_one (show (cs.drop 4).take 1 = [u4] from a4)
  obtain ⟨c0, t0, rfl, hl0⟩ := vH hl
  obtain ⟨c1, t1, rfl, hl1⟩ := vH hl0
  obtain ⟨c2, t2, rfl, hl2⟩ := vH hl1
  obtain ⟨c3, t3, rfl, hl3⟩ := vH hl2
  obtain ⟨c4, t4, rfl, hl4⟩ := vH hl3
  obtain rfl := List.eq_nil_of_length_eq_zero hl4
  simp at e0 e1 e2 e3 e4
  subst e0 e1 e2 e3 e4
  exact ⟨⟨d0, d1, d2, d3, d4⟩, ⟨_, rfl, s4⟩⟩
theorem ZM : xM Tryz.prog 55 (oV jK) := tT Tryz.underlying55 (by kernel_rfl) ZL
theorem ZN : xM Tryz.prog 57 jR := by
  intro H enc w spare held fuel cs x h
  obtain ⟨hl, n, hf⟩ := yu Tryz.underlying57 h
  rw [show Tryz.prog.cellsOf 57 = 3 by kernel_rfl] at hl
  obtain ⟨d0, h0⟩ := fJ (R := dA) (i := 0) hf rfl (by kernel_rfl) vD
  have e0 := cells_one (show (cs.drop 0).take 1 = [.int .i64 d0] from h0)
  obtain ⟨d1, h1⟩ := fJ (R := dA) (i := 1) hf rfl (by kernel_rfl) vD
  have e1 := cells_one (show (cs.drop 1).take 1 = [.int .i64 d1] from h1)
  obtain ⟨d2, h2⟩ := fJ (R := (oV jK)) (i := 2) hf rfl (by kernel_rfl) ZM
  obtain ⟨u2, a2, s2⟩ := h2
  have e2 := cells_one (show (cs.drop 2).take 1 = [u2] from a2)
  obtain ⟨c0, t0, rfl, hl0⟩ := vH hl
  obtain ⟨c1, t1, rfl, hl1⟩ := vH hl0
  obtain ⟨c2, t2, rfl, hl2⟩ := vH hl1
  obtain rfl := List.eq_nil_of_length_eq_zero hl2
  simp at e0 e1 e2
  subst e0 e1 e2
  exact ⟨⟨d0, d1, d2⟩, ⟨_, rfl, s2⟩⟩
theorem ZO : xM Tryz.prog 22 (oV jR) := tT Tryz.underlying22 (by kernel_rfl) ZN
theorem ZP : xM Tryz.prog 51 bJ := by
  intro H enc w spare held fuel cs x h
  obtain ⟨hl, n, hf⟩ := yu Tryz.underlying51 h
  rw [show Tryz.prog.cellsOf 51 = 2 by kernel_rfl] at hl
  obtain ⟨d0, h0⟩ := fJ (R := dA) (i := 0) hf rfl (by kernel_rfl) vD
  have e0 := cells_one (show (cs.drop 0).take 1 = [.int .i64 d0] from h0)
  obtain ⟨d1, h1⟩ := fJ (R := dA) (i := 1) hf rfl (by kernel_rfl) vD
  have e1 := cells_one (show (cs.drop 1).take 1 = [.int .i64 d1] from h1)
  obtain ⟨c0, t0, rfl, hl0⟩ := vH hl
  obtain ⟨c1, t1, rfl, hl1⟩ := vH hl0
  obtain rfl := List.eq_nil_of_length_eq_zero hl1
  simp at e0 e1
  subst e0 e1
  exact ⟨⟨d0, d1⟩, rfl⟩
theorem S9 : xM Tryz.prog 47 (oV bJ) := tT Tryz.underlying47 (by kernel_rfl) ZP
theorem ZQ : xM Tryz.prog 49 eu := by
  intro H enc w spare held fuel cs x h
  obtain ⟨hl, n, hf⟩ := yu Tryz.underlying49 h
  rw [show Tryz.prog.cellsOf 49 = 4 by kernel_rfl] at hl
  obtain ⟨d0, h0⟩ := fJ (R := dA) (i := 0) hf rfl (by kernel_rfl) vD
  have e0 := cells_one (show (cs.drop 0).take 1 = [.int .i64 d0] from h0)
  obtain ⟨d1, h1⟩ := fJ (R := dA) (i := 1) hf rfl (by kernel_rfl) vD
  have e1 := cells_one (show (cs.drop 1).take 1 = [.int .i64 d1] from h1)
  obtain ⟨d2, h2⟩ := fJ (R := (oV bJ)) (i := 2) hf rfl (by kernel_rfl) S9
  obtain ⟨u2, a2, s2⟩ := h2
  have e2 := cells_one (show (cs.drop 2).take 1 = [u2] from a2)
  obtain ⟨d3, h3⟩ := fJ (R := dA) (i := 3) hf rfl (by kernel_rfl) vD
  have e3 := cells_one (show (cs.drop 3).take 1 = [.int .i64 d3] from h3)
  obtain ⟨c0, t0, rfl, hl0⟩ := vH hl
  obtain ⟨c1, t1, rfl, hl1⟩ := vH hl0
  obtain ⟨c2, t2, rfl, hl2⟩ := vH hl1
  obtain ⟨c3, t3, rfl, hl3⟩ := vH hl2
  obtain rfl := List.eq_nil_of_length_eq_zero hl3
  simp at e0 e1 e2 e3
  subst e0 e1 e2 e3
  exact ⟨⟨d0, d1, d2, d3⟩, ⟨_, rfl, s2⟩⟩
theorem ZR : xM Tryz.prog 23 (oV eu) := tT Tryz.underlying23 (by kernel_rfl) ZQ
theorem ZT : xM Tryz.prog 24 (oV (oV bJ)) := tT Tryz.underlying24 (by kernel_rfl) S9
theorem ZU : xM Tryz.prog 26 VL := by
  intro H enc w spare held fuel cs x h
  obtain ⟨hl, n, hf⟩ := yu Tryz.underlying26 h
  rw [show Tryz.prog.cellsOf 26 = 4 by kernel_rfl] at hl
  obtain ⟨d0, h0⟩ := fJ (R := (oV eu)) (i := 0) hf rfl (by kernel_rfl) ZR
  obtain ⟨u0, a0, s0⟩ := h0
  have e0 := cells_one (show (cs.drop 0).take 1 = [u0] from a0)
  obtain ⟨d1, h1⟩ := fJ (R := (oV (oV bJ))) (i := 1) hf rfl (by kernel_rfl) ZT
  obtain ⟨u1, a1, s1⟩ := h1
  have e1 := cells_one (show (cs.drop 1).take 1 = [u1] from a1)
  obtain ⟨d2, h2⟩ := fJ (R := dA) (i := 2) hf rfl (by kernel_rfl) vD
  have e2 := cells_one (show (cs.drop 2).take 1 = [.int .i64 d2] from h2)
  obtain ⟨d3, h3⟩ := fJ (R := dA) (i := 3) hf rfl (by kernel_rfl) vD
  have e3 := cells_one (show (cs.drop 3).take 1 = [.int .i64 d3] from h3)
  obtain ⟨c0, t0, rfl, hl0⟩ := vH hl
  obtain ⟨c1, t1, rfl, hl1⟩ := vH hl0
  obtain ⟨c2, t2, rfl, hl2⟩ := vH hl1
  obtain ⟨c3, t3, rfl, hl3⟩ := vH hl2
  obtain rfl := List.eq_nil_of_length_eq_zero hl3
  simp at e0 e1 e2 e3
  subst e0 e1 e2 e3
  exact ⟨⟨d0, d1, d2, d3⟩, ⟨_, _, rfl, s0, s1⟩⟩
theorem own : ownKnob Tryz.prog.godebug = none := by kernel_rfl
theorem laidOut : laidOutB Tryz.prog = true := by kernel_rfl
set_option maxRecDepth 100000 in
theorem lifted (os : Os) (started : os.Started) (H : Type) (enc : TypeId × Value → H) :
    ReturnsInHanded {} Tryz.checked os 11 .any (fun w args => (Rows.snapGoesOnSpec.pre enc Tryz.prog Tryz.f11 [] false w args ∧ laidMetH Tryz.prog IV w) ∧ sizedMet enc Tryz.prog Tryz.f11 (OpenSpec.ofChange Rows.snapGoesOnSpec) false w args) (Rows.snapGoesOnSpec.post enc Tryz.prog Tryz.f11 false true false false) := by
  refine M3 (C := Tryz.checked) (X := fun w _ => laidMetH Tryz.prog IV w) (fun _ _ _ hh h => h.of_heap hh) own started (by kernel_rfl) Tryz.func11
    (ChangeSpec.witness_shaped (enc := enc) (C := Tryz.checked) (os := os) (X := fun w _ => laidMetH Tryz.prog IV w) false (VH (World.doorLaid Tryz.prog 400 os) 5 (Ot Go.Pinned.utf8First)) #[.slice none 0 0, (.agg #[(.slice none 0 0), (.slice none 0 0), (I6 0), (I6 0)]), .int .i64 0] 8 rfl (World.shaped_of_RefB (by kernel_rfl) (by kernel_rfl)) (by kernel_rfl) (by kernel_rfl) (by kernel_rfl) (Yp os _)) ?_
  intro W base args ds gs before hval0 hW hcnd hL hshape
  have hT := ZJ hL hshape
  have hval : ∀ (j : Nat) t v, Tryz.f11.params[j]? = some t → args[j]? = some v → Value.okWide Tryz.prog W .any base t v := hval0
  have hW2 := hW
  obtain ⟨p, q, hA0, hV, rfl, hfz, hnd⟩ := hW
  have hA : DataW.TrodAll enc Tryz.prog W 0 (fun _ => true) true Tryz.f11.params.toList args.toList ds p := hA0
  rw [Tryz.params11] at hA hval
  obtain ⟨v0, gV, d0, ds0, p0, q0, hargs, rfl, rfl, h0, r0⟩ := trodAll_cons hA
  obtain ⟨v1, vs1, d1, ds1, p1, q1, rfl, rfl, rfl, h1, r1⟩ := trodAll_cons r0
  obtain ⟨v2, vs2, d2, ds2, p2, q2, rfl, rfl, rfl, h2, r2⟩ := trodAll_cons r1
  obtain ⟨rfl, rfl, rfl⟩ := trodAll_nil r2
  obtain rfl : args = #[v0, v1, v2] := by cases args; simp_all
  obtain ⟨rfl, rfl⟩ := trodVars_none hV
  have k0 := h0
  have lt0 : ∀ x ∈ p0, x.block < W.heap.size := by obtain ⟨m, hm⟩ := k0; exact DataW.trod_lt m _ _ _ hm
  obtain ⟨m0, hm0⟩ := h0
  obtain ⟨sa0, sl0, sc0, rfl⟩ := okWide_slice Tryz.underlying22 (hval 0 22 _ rfl rfl)
  obtain ⟨l0, u0, e0, s0⟩ := ZO _ enc W _ _ m0 _ _ hm0
  obtain rfl : Value.slice sa0 sl0 sc0 = u0 := by simpa [Value.cells] using e0
  have k1 := h1
  have lt1 : ∀ x ∈ p1, x.block < W.heap.size := by obtain ⟨m, hm⟩ := k1; exact DataW.trod_lt m _ _ _ hm
  obtain ⟨m1, hm1⟩ := h1
  obtain ⟨g1, rfl, _⟩ := okWide_struct Tryz.underlying26 (hval 1 26 _ rfl rfl)
  obtain ⟨x1, rd1⟩ := ZU _ enc W _ _ m1 _ _ hm1
  obtain ⟨q1_0, q1_1, c1, s1_0, s1_1⟩ := Ov rd1
  obtain rfl : g1 = #[q1_0, q1_1, .int .i64 x1.status, .int .i64 x1.aQ] := Array.ext' (by simpa [Value.cells] using c1)
  have k2 := h2
  have lt2 : ∀ x ∈ p2, x.block < W.heap.size := by obtain ⟨m, hm⟩ := k2; exact DataW.trod_lt m _ _ _ hm
  obtain ⟨m2, hm2⟩ := h2
  obtain ⟨z2, rfl⟩ := okWide_int Tryz.underlying3 (hval 2 3 _ rfl rfl)
  clear hA0 hval0
  obtain ⟨N, hN⟩ := snapGoesOn _ _ _
  refine (zU N W BE nobody hT _ l0 s0 x1 q1_0 q1_1 s1_0 s1_1 z2 true (hN)).mono fun e W2 ⟨bel0, he⟩ => ?_
  have bel := Grow.below bel0
  subst he
  exact ⟨_, rfl, _, _, _, [], _, [], hW2, trodAll_mk1 (shut_bool Tryz.underlying4 _), (trodAll_cons_mk (Below.trod laidOut (by kernel_rfl) (qE (by kernel_rfl)) k0 bel lt0) (trodAll_cons_mk (Below.trod laidOut (by kernel_rfl) (qE (by kernel_rfl)) k1 bel lt1) (trodAll_cons_mk (Below.trod laidOut (by kernel_rfl) (qE (by kernel_rfl)) k2 bel lt2) trodAll_mk0))), rfl, bel.frame _, fun h => by cases h⟩
theorem over : Rows.snapGoesOnRow.holds Tryz.pinned (OpenSpec.ofChange Rows.snapGoesOnSpec) :=
  OpenClaim.holds_of_wide 11 Tryz.f11 rfl rfl rfl rfl rfl rfl rfl ⟨rfl, rfl, rfl, rfl, rfl⟩ rfl rfl rfl rfl rfl (by kernel_rfl) Tryz.func11 (by kernel_rfl)
    (qE (by kernel_rfl)) (by unfold Func.isWrapper; first | (rw [if_pos (by decide +kernel)]; kernel_rfl) | (rw [if_neg (by decide +kernel)]; exact ⟨rfl, rfl⟩))
    (fun os started H enc _ => lifted os started H enc)
theorem proved : Rows.SnapGoesOnCardSaid :=
  Claim7.holds_tied_plain_at .later [] Rows.snapGoesOnCard.laidKinds true Rows.snapGoesOnCard.stood.harness true over (fun _ h => by cases h) (by kernel_rfl) (fun _ h => by cases h) snapGoesOn_row_tie rfl ⟨rfl, rfl⟩ (by kernel_rfl) rfl
    (fun f fn hf hfn => by
      obtain rfl : f = 11 := (fI ((show Tryz.prog.funcNamed Rows.snapGoesOnRow.func = some 11 by kernel_rfl).symm.trans hf)).symm
      obtain rfl : fn = Tryz.f11 := (fI (Tryz.func11.symm.trans hfn)).symm
      refine ⟨by kernel_rfl, fun j t ht => ?_⟩
      rw [Tryz.params11] at ht
      have hm : t ∈ ([22, 26, 3] : List TypeId) := List.mem_of_getElem? (by simpa using ht)
      have hall : (([22, 26, 3] : List TypeId).all fun t => !Tryz.prog.wantsStandIn t) = true := by kernel_rfl
      have hq := List.all_eq_true.1 hall t hm
      show Tryz.prog.wantsStandIn t = false
      simpa using hq)
    (by kernel_rfl)
end snapGoesOnLaw
#print axioms snapGoesOnLaw.proved
end Go.Proofs.YtfclkapelkhlpaaGreatDoor
