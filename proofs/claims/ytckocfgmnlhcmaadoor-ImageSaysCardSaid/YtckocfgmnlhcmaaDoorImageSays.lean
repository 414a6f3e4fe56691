/- The law ImageSays of this seat: for every input it returns true; no condition but what the card says of the listed variables. -/
import Derived.Test.YtckocfgmnlhcmaaDoorRows
import Derived.Test.YtckocfgmnlhcmaaDoorCards
import Derived.Test.YtckocfgmnlhcmaaDoorTie
import Derived.Test.YtckocfgmnlhcmaaDoorTabs
import Derived.Test.YtckocfgmnlhcmaaDoorImgLaw
import Derived.ProofKit
import Derived.SevenTiedAt
import Derived.OpenShut
import Derived.ShutString
import Derived.ChangeOld
import Derived.Below
import Derived.WideShapes
set_option linter.unusedVariables false
set_option linter.unusedSimpArgs false
namespace Go.Proofs.YtckocfgmnlhcmaaDoor
open Go Go.Proofs Go.LX

namespace imageSaysLaw
open Go Go.Proofs Go.LX Go.ChangeShapes Go.WideShapes Go.ChangeAt Go.RowKit
open Go.ChangeMaps (open_string shut_string)
theorem opens3 : Opens Tryd.prog 3 (andR rInt I64) := opens_intW Tryd.underlying3
theorem opens43 : Opens Tryd.prog 43 (rSl (andR rInt I64)) := opens_slice Tryd.underlying43 (by kernel_rfl) opens3
theorem opens54 : Opens Tryd.prog 54 (andR rIns InsW) := by
  intro H enc w spare held fuel cs x h
  obtain ⟨hl, n, hf⟩ := field_trod Tryd.underlying54 h
  rw [show Tryd.prog.cellsOf 54 = 5 by kernel_rfl] at hl
  obtain ⟨d0, h0, w0⟩ := field_opens (R := (andR rInt I64)) (i := 0) hf rfl (by kernel_rfl) opens3
  have e0 := cells_one (show (cs.drop 0).take 1 = [.int .i64 d0] from h0)
  obtain ⟨d1, h1, w1⟩ := field_opens (R := (andR rInt I64)) (i := 1) hf rfl (by kernel_rfl) opens3
  have e1 := cells_one (show (cs.drop 1).take 1 = [.int .i64 d1] from h1)
  obtain ⟨d2, h2, w2⟩ := field_opens (R := (andR rInt I64)) (i := 2) hf rfl (by kernel_rfl) opens3
  have e2 := cells_one (show (cs.drop 2).take 1 = [.int .i64 d2] from h2)
  obtain ⟨d3, h3, w3⟩ := field_opens (R := (andR rInt I64)) (i := 3) hf rfl (by kernel_rfl) opens3
  have e3 := cells_one (show (cs.drop 3).take 1 = [.int .i64 d3] from h3)
  obtain ⟨d4, h4⟩ := field_opens (R := (rSl (andR rInt I64))) (i := 4) hf rfl (by kernel_rfl) opens43
  obtain ⟨u4, a4, s4⟩ := h4
  obtain ⟨s4, w4⟩ := rdSl_and s4
  have e4 := cells_one (show (cs.drop 4).take 1 = [u4] from a4)
  obtain ⟨c0, t0, rfl, hl0⟩ := len_s hl
  obtain ⟨c1, t1, rfl, hl1⟩ := len_s hl0
  obtain ⟨c2, t2, rfl, hl2⟩ := len_s hl1
  obtain ⟨c3, t3, rfl, hl3⟩ := len_s hl2
  obtain ⟨c4, t4, rfl, hl4⟩ := len_s hl3
  obtain rfl := List.eq_nil_of_length_eq_zero hl4
  simp at e0 e1 e2 e3 e4
  subst e0 e1 e2 e3 e4
  exact ⟨⟨d0, d1, d2, d3, d4⟩, ⟨_, rfl, s4⟩, w0, w1, w2, w3, w4⟩
theorem opens50 : Opens Tryd.prog 50 (rSl (andR rIns InsW)) := opens_slice Tryd.underlying50 (by kernel_rfl) opens54
theorem opens52 : Opens Tryd.prog 52 (andR rProc ProcW) := by
  intro H enc w spare held fuel cs x h
  obtain ⟨hl, n, hf⟩ := field_trod Tryd.underlying52 h
  rw [show Tryd.prog.cellsOf 52 = 3 by kernel_rfl] at hl
  obtain ⟨d0, h0, w0⟩ := field_opens (R := (andR rInt I64)) (i := 0) hf rfl (by kernel_rfl) opens3
  have e0 := cells_one (show (cs.drop 0).take 1 = [.int .i64 d0] from h0)
  obtain ⟨d1, h1, w1⟩ := field_opens (R := (andR rInt I64)) (i := 1) hf rfl (by kernel_rfl) opens3
  have e1 := cells_one (show (cs.drop 1).take 1 = [.int .i64 d1] from h1)
  obtain ⟨d2, h2⟩ := field_opens (R := (rSl (andR rIns InsW))) (i := 2) hf rfl (by kernel_rfl) opens50
  obtain ⟨u2, a2, s2⟩ := h2
  obtain ⟨s2, w2⟩ := rdSl_and s2
  have e2 := cells_one (show (cs.drop 2).take 1 = [u2] from a2)
  obtain ⟨c0, t0, rfl, hl0⟩ := len_s hl
  obtain ⟨c1, t1, rfl, hl1⟩ := len_s hl0
  obtain ⟨c2, t2, rfl, hl2⟩ := len_s hl1
  obtain rfl := List.eq_nil_of_length_eq_zero hl2
  simp at e0 e1 e2
  subst e0 e1 e2
  exact ⟨⟨d0, d1, d2⟩, ⟨_, rfl, s2⟩, w0, w1, w2⟩
theorem opens22 : Opens Tryd.prog 22 (rSl (andR rProc ProcW)) := opens_slice Tryd.underlying22 (by kernel_rfl) opens52
theorem opens9 : Opens Tryd.prog 9 rStr := opens_str Tryd.underlying9
theorem own : ownKnob Tryd.prog.godebug = none := by kernel_rfl
theorem laidOut : laidOutB Tryd.prog = true := by kernel_rfl
set_option maxRecDepth 100000 in
theorem lifted (os : Os) (started : os.Started) (H : Type) (enc : TypeId × Value → H) :
    ReturnsInHanded {} Tryd.checked os 4 .any (fun w args => (Rows.imageSaysSpec.pre enc Tryd.prog Tryd.f4 [] false w args ∧ laidMetH Tryd.prog laidL w) ∧ sizedMet enc Tryd.prog Tryd.f4 (OpenSpec.ofChange Rows.imageSaysSpec) false w args) (Rows.imageSaysSpec.post enc Tryd.prog Tryd.f4 false true false false) := by
  refine returns_laid (C := Tryd.checked) (X := fun w _ => laidMetH Tryd.prog laidL w) (fun _ _ _ hh h => h.of_heap hh) own started (by kernel_rfl) Tryd.func4
    (ChangeSpec.witness_shaped (enc := enc) (C := Tryd.checked) (os := os) (X := fun w _ => laidMetH Tryd.prog laidL w) false (laidIn (World.doorLaid Tryd.prog 400 os) 4 (tabCells Go.Pinned.utf8First)) #[.slice none 0 0, .string ByteArray.empty] 8 rfl (World.shaped_of_RefB (by kernel_rfl) (by kernel_rfl)) (by kernel_rfl) (by kernel_rfl) (by kernel_rfl) (laid_met os _)) ?_
  intro W base args ds gs before hval0 hW hcnd hL hshape
  have hT := tabs_of hL hshape
  have hval : ∀ (j : Nat) t v, Tryd.f4.params[j]? = some t → args[j]? = some v → Value.okWide Tryd.prog W .any base t v := hval0
  have hW2 := hW
  obtain ⟨p, q, hA0, hV, rfl, hfz, hnd⟩ := hW
  have hA : DataW.TrodAll enc Tryd.prog W 0 (fun _ => true) true Tryd.f4.params.toList args.toList ds p := hA0
  rw [Tryd.params4] at hA hval
  obtain ⟨v0, vs0, d0, ds0, p0, q0, hargs, rfl, rfl, h0, r0⟩ := trodAll_cons hA
  obtain ⟨v1, vs1, d1, ds1, p1, q1, rfl, rfl, rfl, h1, r1⟩ := trodAll_cons r0
  obtain ⟨rfl, rfl, rfl⟩ := trodAll_nil r1
  obtain rfl : args = #[v0, v1] := by cases args; simp_all
  obtain ⟨rfl, rfl⟩ := trodVars_none hV
  have k0 := h0
  have lt0 : ∀ x ∈ p0, x.block < W.heap.size := by obtain ⟨m, hm⟩ := k0; exact DataW.trod_lt m _ _ _ hm
  obtain ⟨m0, hm0⟩ := h0
  obtain ⟨sa0, sl0, sc0, rfl⟩ := okWide_slice Tryd.underlying22 (hval 0 22 _ rfl rfl)
  obtain ⟨l0, u0, e0, s0⟩ := opens22 _ enc W _ _ m0 _ _ hm0
  obtain rfl : Value.slice sa0 sl0 sc0 = u0 := by simpa [Value.cells] using e0
  obtain ⟨s0, wf0⟩ := rdSl_and s0
  have k1 := h1
  have lt1 : ∀ x ∈ p1, x.block < W.heap.size := by obtain ⟨m, hm⟩ := k1; exact DataW.trod_lt m _ _ _ hm
  obtain ⟨m1, hm1⟩ := h1
  obtain ⟨sb1, rfl⟩ := okWide_string Tryd.underlying9 (hval 1 9 _ rfl rfl)
  obtain ⟨t1, rt1⟩ := opens9 _ enc W _ _ m1 _ _ hm1
  obtain rfl : sb1 = ⟨t1.toArray⟩ := str_of_rd rt1
  clear hA0 hval0
  obtain ⟨N, hN⟩ := imageSays _ _ wf0
  refine (wandererlaw_ImageSays_c N W BE nobody hT _ l0 s0 t1 true (hN)).mono fun e W2 ⟨bel0, he⟩ => ?_
  have bel := Grow.below bel0
  subst he
  exact ⟨_, rfl, _, _, _, [], _, [], hW2, trodAll_mk1 (shut_bool Tryd.underlying4 _), (trodAll_cons_mk (Below.trod laidOut (by kernel_rfl) (of_decide_eq_true (by kernel_rfl)) k0 bel lt0) (trodAll_cons_mk (Below.trod laidOut (by kernel_rfl) (of_decide_eq_true (by kernel_rfl)) k1 bel lt1) trodAll_mk0)), rfl, bel.frame _, fun h => by cases h⟩
theorem over : Rows.imageSaysRow.holds Tryd.pinned (OpenSpec.ofChange Rows.imageSaysSpec) :=
  OpenClaim.holds_of_wide 4 Tryd.f4 rfl rfl rfl rfl rfl rfl rfl ⟨rfl, rfl, rfl, rfl, rfl⟩ rfl rfl rfl rfl rfl (by kernel_rfl) Tryd.func4 (by kernel_rfl)
    (of_decide_eq_true (by kernel_rfl)) (by unfold Func.isWrapper; first | (rw [if_pos (by decide +kernel)]; kernel_rfl) | (rw [if_neg (by decide +kernel)]; exact ⟨rfl, rfl⟩))
    (fun os started H enc _ => lifted os started H enc)
theorem proved : Rows.ImageSaysCardSaid :=
  Claim7.holds_tied_plain_at .later [] Rows.imageSaysCard.laidKinds true Rows.imageSaysCard.stood.harness true over (fun _ h => by cases h) (by kernel_rfl) (fun _ h => by cases h) imageSays_row_tie rfl ⟨rfl, rfl⟩ (by kernel_rfl) rfl
    (fun f fn hf hfn => by
      obtain rfl : f = 4 := (Option.some.inj ((show Tryd.prog.funcNamed Rows.imageSaysRow.func = some 4 by kernel_rfl).symm.trans hf)).symm
      obtain rfl : fn = Tryd.f4 := (Option.some.inj (Tryd.func4.symm.trans hfn)).symm
      refine ⟨by kernel_rfl, fun j t ht => ?_⟩
      rw [Tryd.params4] at ht
      have hm : t ∈ ([22, 9] : List TypeId) := List.mem_of_getElem? (by simpa using ht)
      have hall : (([22, 9] : List TypeId).all fun t => !Tryd.prog.wantsStandIn t) = true := by kernel_rfl
      have hq := List.all_eq_true.1 hall t hm
      show Tryd.prog.wantsStandIn t = false
      simpa using hq)
    (by kernel_rfl)
end imageSaysLaw
#print axioms imageSaysLaw.proved
end Go.Proofs.YtckocfgmnlhcmaaDoor
