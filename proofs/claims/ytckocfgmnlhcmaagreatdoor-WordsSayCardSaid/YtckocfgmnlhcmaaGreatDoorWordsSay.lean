/- The law WordsSay of this seat: for every input it returns true; no condition but what the card says of the listed variables. -/
import Derived.Test.YtckocfgmnlhcmaaGreatDoorRows
import Derived.Test.YtckocfgmnlhcmaaGreatDoorCards
import Derived.Test.YtckocfgmnlhcmaaGreatDoorTie
import Derived.Test.YtckocfgmnlhcmaaGreatDoorTabs
import Derived.Test.YtckocfgmnlhcmaaGreatDoorWsyLawb
import Derived.ProofKit
import Derived.SevenTiedAt
import Derived.OpenShut
import Derived.ShutString
import Derived.ChangeOld
import Derived.Below
import Derived.WideShapes
set_option linter.unusedVariables false
set_option linter.unusedSimpArgs false
namespace Go.Proofs.YtckocfgmnlhcmaaGreatDoor
open Go Go.Proofs Go.LX

namespace wordsSayLaw
open Go Go.Proofs Go.LX Go.ChangeShapes Go.WideShapes Go.ChangeAt Go.RowKit
open Go.ChangeMaps (open_string shut_string)
theorem opens3 : Opens Tryz.prog 3 rInt := opens_int Tryz.underlying3
theorem opens71 : Opens Tryz.prog 71 rTok := by
  intro H enc w spare held fuel cs x h
  obtain ⟨hl, n, hf⟩ := field_trod Tryz.underlying71 h
  rw [show Tryz.prog.cellsOf 71 = 2 by kernel_rfl] at hl
  obtain ⟨d0, h0⟩ := field_opens (R := rInt) (i := 0) hf rfl (by kernel_rfl) opens3
  have e0 := cells_one (show (cs.drop 0).take 1 = [.int .i64 d0] from h0)
  obtain ⟨d1, h1⟩ := field_opens (R := rInt) (i := 1) hf rfl (by kernel_rfl) opens3
  have e1 := cells_one (show (cs.drop 1).take 1 = [.int .i64 d1] from h1)
  obtain ⟨c0, t0, rfl, hl0⟩ := len_s hl
  obtain ⟨c1, t1, rfl, hl1⟩ := len_s hl0
  obtain rfl := List.eq_nil_of_length_eq_zero hl1
  simp at e0 e1
  subst e0 e1
  exact ⟨⟨d0, d1⟩, rfl⟩
theorem opens63 : Opens Tryz.prog 63 (rSl rTok) := opens_slice Tryz.underlying63 (by kernel_rfl) opens71
theorem opens65 : Opens Tryz.prog 65 rStmt := opens_of fun m => by
  induction m with
  | zero => intro H enc w spare held fuel cs x hfu h; obtain ⟨hl, n, hn, hf⟩ := field_trodTo Tryz.underlying65 h; omega
  | succ m ih =>
  intro H enc w spare held fuel cs x hfu h
  obtain ⟨hl, n, hn, hf⟩ := field_trodTo Tryz.underlying65 h
  rw [show Tryz.prog.cellsOf 65 = 6 by kernel_rfl] at hl
  obtain ⟨d0, h0⟩ := field_opensTo (R := rInt) (i := 0) hf rfl (by kernel_rfl) (opens3.to n)
  have e0 := cells_one (show (cs.drop 0).take 1 = [.int .i64 d0] from h0)
  obtain ⟨d1, h1⟩ := field_opensTo (R := rInt) (i := 1) hf rfl (by kernel_rfl) (opens3.to n)
  have e1 := cells_one (show (cs.drop 1).take 1 = [.int .i64 d1] from h1)
  obtain ⟨d2, h2⟩ := field_opensTo (R := (rSl rTok)) (i := 2) hf rfl (by kernel_rfl) (opens63.to n)
  obtain ⟨u2, a2, s2⟩ := h2
  have e2 := cells_one (show (cs.drop 2).take 1 = [u2] from a2)
  obtain ⟨d3, h3⟩ := field_opensTo (R := (rSl rTok)) (i := 3) hf rfl (by kernel_rfl) (opens63.to n)
  obtain ⟨u3, a3, s3⟩ := h3
  have e3 := cells_one (show (cs.drop 3).take 1 = [u3] from a3)
  obtain ⟨d4, h4⟩ := field_opensTo (R := (rSl rStmt)) (i := 4) hf rfl (by kernel_rfl) (opens_sliceTo Tryz.underlying41 (by kernel_rfl) (ih.le (by omega)))
  obtain ⟨u4, a4, s4⟩ := h4
  have e4 := cells_one (show (cs.drop 4).take 1 = [u4] from a4)
  obtain ⟨d5, h5⟩ := field_opensTo (R := (rSl rStmt)) (i := 5) hf rfl (by kernel_rfl) (opens_sliceTo Tryz.underlying41 (by kernel_rfl) (ih.le (by omega)))
  obtain ⟨u5, a5, s5⟩ := h5
  have e5 := cells_one (show (cs.drop 5).take 1 = [u5] from a5)
  obtain ⟨c0, t0, rfl, hl0⟩ := len_s hl
  obtain ⟨c1, t1, rfl, hl1⟩ := len_s hl0
  obtain ⟨c2, t2, rfl, hl2⟩ := len_s hl1
  obtain ⟨c3, t3, rfl, hl3⟩ := len_s hl2
  obtain ⟨c4, t4, rfl, hl4⟩ := len_s hl3
  obtain ⟨c5, t5, rfl, hl5⟩ := len_s hl4
  obtain rfl := List.eq_nil_of_length_eq_zero hl5
  simp at e0 e1 e2 e3 e4 e5
  subst e0 e1 e2 e3 e4 e5
  exact ⟨⟨d0, d1, d2, d3, d4, d5⟩, rStmt_mk ⟨_, _, _, _, rfl, s2, s3, s4, s5⟩⟩
theorem opens41 : Opens Tryz.prog 41 (rSl rStmt) := opens_slice Tryz.underlying41 (by kernel_rfl) opens65
theorem opens43 : Opens Tryz.prog 43 rFun := by
  intro H enc w spare held fuel cs x h
  obtain ⟨hl, n, hf⟩ := field_trod Tryz.underlying43 h
  rw [show Tryz.prog.cellsOf 43 = 3 by kernel_rfl] at hl
  obtain ⟨d0, h0⟩ := field_opens (R := rInt) (i := 0) hf rfl (by kernel_rfl) opens3
  have e0 := cells_one (show (cs.drop 0).take 1 = [.int .i64 d0] from h0)
  obtain ⟨d1, h1⟩ := field_opens (R := rInt) (i := 1) hf rfl (by kernel_rfl) opens3
  have e1 := cells_one (show (cs.drop 1).take 1 = [.int .i64 d1] from h1)
  obtain ⟨d2, h2⟩ := field_opens (R := (rSl rStmt)) (i := 2) hf rfl (by kernel_rfl) opens41
  obtain ⟨u2, a2, s2⟩ := h2
  have e2 := cells_one (show (cs.drop 2).take 1 = [u2] from a2)
  obtain ⟨c0, t0, rfl, hl0⟩ := len_s hl
  obtain ⟨c1, t1, rfl, hl1⟩ := len_s hl0
  obtain ⟨c2, t2, rfl, hl2⟩ := len_s hl1
  obtain rfl := List.eq_nil_of_length_eq_zero hl2
  simp at e0 e1 e2
  subst e0 e1 e2
  exact ⟨⟨d0, d1, d2⟩, ⟨_, rfl, s2⟩⟩
theorem opens22 : Opens Tryz.prog 22 (rSl rFun) := opens_slice Tryz.underlying22 (by kernel_rfl) opens43
theorem opens9 : Opens Tryz.prog 9 rStr := opens_str Tryz.underlying9
theorem own : ownKnob Tryz.prog.godebug = none := by kernel_rfl
theorem laidOut : laidOutB Tryz.prog = true := by kernel_rfl
set_option maxRecDepth 100000 in
theorem lifted (os : Os) (started : os.Started) (H : Type) (enc : TypeId × Value → H) :
    ReturnsInHanded {} Tryz.checked os 3 .any (fun w args => (Rows.wordsSaySpec.pre enc Tryz.prog Tryz.f3 [] false w args ∧ laidMetH Tryz.prog laidL w) ∧ sizedMet enc Tryz.prog Tryz.f3 (OpenSpec.ofChange Rows.wordsSaySpec) false w args) (Rows.wordsSaySpec.post enc Tryz.prog Tryz.f3 false true false false) := by
  refine returns_laid (C := Tryz.checked) (X := fun w _ => laidMetH Tryz.prog laidL w) (fun _ _ _ hh h => h.of_heap hh) own started (by kernel_rfl) Tryz.func3
    (ChangeSpec.witness_shaped (enc := enc) (C := Tryz.checked) (os := os) (X := fun w _ => laidMetH Tryz.prog laidL w) false (laidIn (World.doorLaid Tryz.prog 400 os) 6 (tabCells Go.Pinned.utf8First)) #[.slice none 0 0, .string ByteArray.empty] 8 rfl (World.shaped_of_RefB (by kernel_rfl) (by kernel_rfl)) (by kernel_rfl) (by kernel_rfl) (by kernel_rfl) (laid_met os _)) ?_
  intro W base args ds gs before hval0 hW hcnd hL hshape
  have hT := tabs_of hL hshape
  have hval : ∀ (j : Nat) t v, Tryz.f3.params[j]? = some t → args[j]? = some v → Value.okWide Tryz.prog W .any base t v := hval0
  have hW2 := hW
  obtain ⟨p, q, hA0, hV, rfl, hfz, hnd⟩ := hW
  have hA : DataW.TrodAll enc Tryz.prog W 0 (fun _ => true) true Tryz.f3.params.toList args.toList ds p := hA0
  rw [Tryz.params3] at hA hval
  obtain ⟨v0, vs0, d0, ds0, p0, q0, hargs, rfl, rfl, h0, r0⟩ := trodAll_cons hA
  obtain ⟨v1, vs1, d1, ds1, p1, q1, rfl, rfl, rfl, h1, r1⟩ := trodAll_cons r0
  obtain ⟨rfl, rfl, rfl⟩ := trodAll_nil r1
  obtain rfl : args = #[v0, v1] := by cases args; simp_all
  obtain ⟨rfl, rfl⟩ := trodVars_none hV
  have k0 := h0
  have lt0 : ∀ x ∈ p0, x.block < W.heap.size := by obtain ⟨m, hm⟩ := k0; exact DataW.trod_lt m _ _ _ hm
  obtain ⟨m0, hm0⟩ := h0
  obtain ⟨sa0, sl0, sc0, rfl⟩ := okWide_slice Tryz.underlying22 (hval 0 22 _ rfl rfl)
  obtain ⟨l0, u0, e0, s0⟩ := opens22 _ enc W _ _ m0 _ _ hm0
  obtain rfl : Value.slice sa0 sl0 sc0 = u0 := by simpa [Value.cells] using e0
  have k1 := h1
  have lt1 : ∀ x ∈ p1, x.block < W.heap.size := by obtain ⟨m, hm⟩ := k1; exact DataW.trod_lt m _ _ _ hm
  obtain ⟨m1, hm1⟩ := h1
  obtain ⟨sb1, rfl⟩ := okWide_string Tryz.underlying9 (hval 1 9 _ rfl rfl)
  obtain ⟨t1, rt1⟩ := opens9 _ enc W _ _ m1 _ _ hm1
  obtain rfl : sb1 = ⟨t1.toArray⟩ := str_of_rd rt1
  clear hA0 hval0
  obtain ⟨N, hN⟩ := wordsSay _ _
  refine (wandererlaw_WordsSay_c N W BE nobody hT _ l0 s0 t1 true (hN)).mono fun e W2 ⟨bel0, he⟩ => ?_
  have bel := Grow.below bel0
  subst he
  exact ⟨_, rfl, _, _, _, [], _, [], hW2, trodAll_mk1 (shut_bool Tryz.underlying4 _), (trodAll_cons_mk (Below.trod laidOut (by kernel_rfl) (of_decide_eq_true (by kernel_rfl)) k0 bel lt0) (trodAll_cons_mk (Below.trod laidOut (by kernel_rfl) (of_decide_eq_true (by kernel_rfl)) k1 bel lt1) trodAll_mk0)), rfl, bel.frame _, fun h => by cases h⟩
theorem over : Rows.wordsSayRow.holds Tryz.pinned (OpenSpec.ofChange Rows.wordsSaySpec) :=
  OpenClaim.holds_of_wide 3 Tryz.f3 rfl rfl rfl rfl rfl rfl rfl ⟨rfl, rfl, rfl, rfl, rfl⟩ rfl rfl rfl rfl rfl (by kernel_rfl) Tryz.func3 (by kernel_rfl)
    (of_decide_eq_true (by kernel_rfl)) (by unfold Func.isWrapper; first | (rw [if_pos (by decide +kernel)]; kernel_rfl) | (rw [if_neg (by decide +kernel)]; exact ⟨rfl, rfl⟩))
    (fun os started H enc _ => lifted os started H enc)
theorem proved : Rows.WordsSayCardSaid :=
  Claim7.holds_tied_plain_at .later [] Rows.wordsSayCard.laidKinds true Rows.wordsSayCard.stood.harness true over (fun _ h => by cases h) (by kernel_rfl) (fun _ h => by cases h) wordsSay_row_tie rfl ⟨rfl, rfl⟩ (by kernel_rfl) rfl
    (fun f fn hf hfn => by
      obtain rfl : f = 3 := (Option.some.inj ((show Tryz.prog.funcNamed Rows.wordsSayRow.func = some 3 by kernel_rfl).symm.trans hf)).symm
      obtain rfl : fn = Tryz.f3 := (Option.some.inj (Tryz.func3.symm.trans hfn)).symm
      refine ⟨by kernel_rfl, fun j t ht => ?_⟩
      rw [Tryz.params3] at ht
      have hm : t ∈ ([22, 9] : List TypeId) := List.mem_of_getElem? (by simpa using ht)
      have hall : (([22, 9] : List TypeId).all fun t => !Tryz.prog.wantsStandIn t) = true := by kernel_rfl
      have hq := List.all_eq_true.1 hall t hm
      show Tryz.prog.wantsStandIn t = false
      simpa using hq)
    (by kernel_rfl)
end wordsSayLaw
#print axioms wordsSayLaw.proved
end Go.Proofs.YtckocfgmnlhcmaaGreatDoor
