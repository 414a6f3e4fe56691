/- The law CellMore of this seat, where what it reads is of bulk at most 1048576: it returns true. -/
import Derived.Test.YtkjajililnbimaaRows
import Derived.Test.YtkjajililnbimaaWalkG
import Derived.ProofKit
import Derived.OpenShut
import Derived.ShutString
import Derived.ChangeOld
import Derived.Below
import Derived.WideShapes
import Derived.JoinedCond
import Derived.Deep.Slices
set_option linter.unusedVariables false
set_option linter.unusedSimpArgs false
namespace Go.Proofs.Ytkjajililnbimaa
open Go Go.Proofs Go.WX
theorem opens3 : Opens Try.prog 3 rInt := opens_int Try.underlying3
theorem opens34 : Opens Try.prog 34 rVal := opens_val Try.underlying34 (by kernel_rfl) rfl rfl (by kernel_rfl) (by kernel_rfl) opens3 opens3
theorem opens28 : Opens Try.prog 28 (rSlice rVal) := opens_slice Try.underlying28 (by kernel_rfl) opens34
theorem opens27 : Opens Try.prog 27 (rSlice (rSlice rVal)) := opens_slice Try.underlying27 (by kernel_rfl) opens28
namespace cellMoreLaw
open Go Go.Proofs Go.WX Go.ChangeShapes Go.WideShapes Go.ChangeAt Go.RowKit
open Go.ChangeMaps (open_string shut_string)
theorem own : ownKnob Try.prog.godebug = none := by kernel_rfl
theorem laidOut : laidOutB Try.prog = true := by kernel_rfl
theorem bulk_pos {H : Type} (d : DataW H) : 1 ≤ Rows.uptoBulk d := by
  cases d with
  | lit x => cases x <;> simp [Rows.uptoBulk]
  | _ => simp [Rows.uptoBulk]
theorem bulk_len {H : Type} : ∀ l : List (DataW H), l.length ≤ Rows.uptoBulkAll l
  | [] => Nat.zero_le _
  | d :: r => by
    have h1 := bulk_pos d
    have h2 := bulk_len r
    simp only [List.length_cons, Rows.uptoBulkAll]
    omega
theorem trod_len {H : Type} {enc : TypeId × Value → H} {P : Program} {w : World} {spare : Nat → Bool} {held : Bool} {fuel : Nat} {T E : TypeId} {a : Option Addr} {n c : Nat} {d : DataW H} {p : List MemPlace} (ht : P.underlying T = some (.slice E))
    (h : DataW.trod enc P w 0 spare held fuel T (Value.slice a n c).cells.toList = some (d, p)) : n ≤ Rows.uptoBulk d := by
  rcases Deep.open_slice ht h with ⟨h1, _⟩ | ⟨b, len, cap, m, k, D, Pl, h1, _, _, _, _, h2, _⟩
  · simp only [Value.cells, List.cons.injEq, Value.slice.injEq, and_true] at h1
    omega
  · simp only [Value.cells, List.cons.injEq, Value.slice.injEq, and_true] at h1
    have hd : d = .slice ((List.range len).map D) ((List.range (m - len)).map fun j => D (len + j)) := congrArg Prod.fst h2
    rw [hd]
    have := bulk_len ((List.range len).map D)
    simp only [Rows.uptoBulk]
    rw [List.length_map, List.length_range] at this
    omega
theorem rd_len {α : Type} {R : Rep α} {w : World} {M : List Nat} {a : Option Addr} {n c : Nat} {l : List α} (h : rSliceRd R w M (.slice a n c) l) : l.length = n := by
  obtain ⟨b, cap, h1, _⟩ := h
  exact (Value.slice.inj h1).2.1.symm
set_option maxRecDepth 100000 in
theorem lifted (os : Os) (started : os.Started) (H : Type) (enc : TypeId × Value → H) (F0 : Stop.Interp) :
    ReturnsInHanded {} Try.checked os 8 .any ((Rows.OpenSpec.upto Rows.cellMoreSpec).pre6 enc Try.prog Try.f8 Rows.cellMoreUptoRow.domain false) (((Rows.OpenSpec.upto Rows.cellMoreSpec).at F0).post enc Try.prog Try.f8 false true false false) := by
  refine returnsInHanded_of_cond (C := Try.checked) (s := (Rows.OpenSpec.upto Rows.cellMoreSpec)) (k := Rows.uptoSmall) rfl own started (by kernel_rfl) Try.func8
    (OpenSpec.witness (enc := enc) (C := Try.checked) (s := (Rows.OpenSpec.upto Rows.cellMoreSpec)) (k := Rows.uptoSmall) rfl false ⟨#[], #[.slice none 0 0, .slice none 0 0, .slice none 0 0], []⟩ 8 (by kernel_rfl) (by kernel_rfl) (by kernel_rfl) (x := ([.nil, .nil, .nil], [], [])) (by kernel_rfl) (by kernel_rfl) (by kernel_rfl)) ?_
  intro W base args ds gs before hval0 hW hcnd hsmall hreach
  have hval : ∀ (j : Nat) t v, Try.f8.params[j]? = some t → args[j]? = some v → Value.okWide Try.prog W .any base t v := hval0
  have hW2 := hW
  obtain ⟨p, q, hA0, hV, rfl, hfz, hnd⟩ := hW
  have hA : DataW.TrodAll enc Try.prog W 0 (fun _ => true) true Try.f8.params.toList args.toList ds p := hA0
  rw [Try.params8] at hA hval
  obtain ⟨v0, vs0, d0, ds0, p0, q0, hargs, rfl, rfl, h0, r0⟩ := trodAll_cons hA
  obtain ⟨v1, vs1, d1, ds1, p1, q1, rfl, rfl, rfl, h1, r1⟩ := trodAll_cons r0
  obtain ⟨v2, vs2, d2, ds2, p2, q2, rfl, rfl, rfl, h2, r2⟩ := trodAll_cons r1
  obtain ⟨rfl, rfl, rfl⟩ := trodAll_nil r2
  obtain rfl : args = #[v0, v1, v2] := by cases args; simp_all
  obtain ⟨rfl, rfl⟩ := trodVars_none hV
  have k0 := h0
  have lt0 : ∀ x ∈ p0, x.block < W.heap.size := by obtain ⟨m, hm⟩ := k0; exact DataW.trod_lt m _ _ _ hm
  obtain ⟨m0, hm0⟩ := h0
  obtain ⟨sa0, sl0, sc0, rfl⟩ := okWide_slice Try.underlying27 (hval 0 27 _ rfl rfl)
  obtain ⟨l0, u0, e0, s0⟩ := opens27 _ enc W _ _ m0 _ _ hm0
  obtain rfl : Value.slice sa0 sl0 sc0 = u0 := by simpa [Value.cells] using e0
  have hbl0 := trod_len Try.underlying27 hm0
  have hle0 := rd_len s0
  have k1 := h1
  have lt1 : ∀ x ∈ p1, x.block < W.heap.size := by obtain ⟨m, hm⟩ := k1; exact DataW.trod_lt m _ _ _ hm
  obtain ⟨m1, hm1⟩ := h1
  obtain ⟨sa1, sl1, sc1, rfl⟩ := okWide_slice Try.underlying28 (hval 1 28 _ rfl rfl)
  obtain ⟨l1, u1, e1, s1⟩ := opens28 _ enc W _ _ m1 _ _ hm1
  obtain rfl : Value.slice sa1 sl1 sc1 = u1 := by simpa [Value.cells] using e1
  have hbl1 := trod_len Try.underlying28 hm1
  have hle1 := rd_len s1
  have k2 := h2
  have lt2 : ∀ x ∈ p2, x.block < W.heap.size := by obtain ⟨m, hm⟩ := k2; exact DataW.trod_lt m _ _ _ hm
  obtain ⟨m2, hm2⟩ := h2
  obtain ⟨sa2, sl2, sc2, rfl⟩ := okWide_slice Try.underlying28 (hval 2 28 _ rfl rfl)
  obtain ⟨l2, u2, e2, s2⟩ := opens28 _ enc W _ _ m2 _ _ hm2
  obtain rfl : Value.slice sa2 sl2 sc2 = u2 := by simpa [Value.cells] using e2
  have hbl2 := trod_len Try.underlying28 hm2
  have hle2 := rd_len s2
  have hsm := of_decide_eq_true hsmall
  simp only [List.append_nil, Rows.uptoBulkAll] at hsm
  clear hA0 hval0
  refine (cellMore_calls [] W (fun x hx => absurd hx List.not_mem_nil) _ _ _ _ _ _ s0 s1 s2 (by omega) (by omega)).mono fun e W2 ⟨he, bel0⟩ => ?_
  have bel := Grow.below bel0
  subst he
  exact ⟨_, rfl, _, _, _, [], _, [], hW2, trodAll_mk1 (shut_bool Try.underlying4 _), (trodAll_cons_mk (Below.trod laidOut (by kernel_rfl) (of_decide_eq_true (by kernel_rfl)) k0 bel lt0) (trodAll_cons_mk (Below.trod laidOut (by kernel_rfl) (of_decide_eq_true (by kernel_rfl)) k1 bel lt1) (trodAll_cons_mk (Below.trod laidOut (by kernel_rfl) (of_decide_eq_true (by kernel_rfl)) k2 bel lt2) trodAll_mk0))), rfl, bel.frame _, fun h => by cases h⟩
theorem over : Rows.cellMoreUptoRow.holds Try.pinned (Rows.OpenSpec.upto Rows.cellMoreSpec) :=
  OpenClaim.holds_of_cond 8 Try.f8 rfl rfl rfl rfl rfl rfl rfl ⟨rfl, rfl, rfl, rfl, rfl⟩ rfl rfl rfl rfl rfl (by kernel_rfl) Try.func8 (by kernel_rfl)
    (of_decide_eq_true (by kernel_rfl)) (by unfold Func.isWrapper; first | (rw [if_pos (by decide +kernel)]; kernel_rfl) | (rw [if_neg (by decide +kernel)]; exact ⟨rfl, rfl⟩))
    (fun os started H enc _ F0 => lifted os started H enc F0)
theorem proved : Rows.CellMoreUptoSaid := over
end cellMoreLaw
#print axioms cellMoreLaw.proved
end Go.Proofs.Ytkjajililnbimaa
