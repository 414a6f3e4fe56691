/-
  What the law VmParts needs of our own library and of the walks, no more.
-/
import Derived.Test.YtfclkapelkhlpaaGreatDoorRows
import Derived.KernelRfl
import Derived.Test.YtfclkapelkhlpaaGreatDoorVmPartsTg
set_option linter.unusedSimpArgs false
set_option linter.unusedVariables false
set_option maxRecDepth 10000
namespace Go.Proofs.YtfclkapelkhlpaaGreatDoor
open Go Go.Proofs Go.LX Go.ChangeShapes
def GU : List (String × DataW Unit) := Rows.vmSaysRow.laid
theorem gPow : Tryz.prog.globalNamed "internal/strconv.uint64pow10" = some 7 := by kernel_rfl
theorem gSyn : Tryz.prog.globalNamed "strconv.ErrSyntax" = some 2 := by kernel_rfl
theorem gRan : Tryz.prog.globalNamed "strconv.ErrRange" = some 3 := by kernel_rfl
theorem tPow : (Tryz.prog.globals[7]?).map (·.type) = some 261 := by kernel_rfl
theorem tSyn : (Tryz.prog.globals[2]?).map (·.type) = some 156 := by kernel_rfl
theorem tRan : (Tryz.prog.globals[3]?).map (·.type) = some 156 := by kernel_rfl
theorem cPow : Tryz.prog.cellsOf 261 = 20 := by kernel_rfl
theorem c122 : Tryz.prog.cellsOf 218 = 1 := by kernel_rfl
theorem c152 : Tryz.prog.cellsOf 244 = 1 := by kernel_rfl
theorem c9 : Tryz.prog.cellsOf 9 = 1 := by kernel_rfl
theorem uErr : Tryz.prog.underlying 156 = some (.interface (Tryz.prog.methodsAt 156)) := by kernel_rfl
theorem XE {nm : String} (hn : nm = "*" ++ "errors.errorString") (u : TypeId) (h : Tryz.prog.typeName? 3 u = some nm) : u = 242 := by
  subst hn
  exact typeName_ptr_named (nm := "errors.errorString") (by kernel_rfl) (by kernel_rfl) (by decide) u h
theorem powTab : (Rows.laid_internal_strconv_uint64pow10 : DataW Unit) = Lib.tabData .u64 Lib.pow10Tab := by kernel_rfl
theorem gAsc : Tryz.prog.globalNamed "strings.asciiSpace" = some 0 := by kernel_rfl
theorem tAsc : (Tryz.prog.globals[0]?).map (·.type) = some 182 := by kernel_rfl
theorem cAsc : Tryz.prog.cellsOf 182 = 256 := by kernel_rfl
theorem cByt : Tryz.prog.cellsOf 5 = 1 := by kernel_rfl
theorem ascTab : (Rows.laid_strings_asciiSpace : DataW Unit) = Lib.tabData .u8 Lib.asciiSpaceTab := by kernel_rfl
theorem Ux {W : World} (hs : W.ShapedOpen Tryz.prog) : Tryz.prog.globals.size ≤ W.heap.size := by
  have h0 : ∃ n, Tryz.prog.globals.size = n + 1 ∧ (((begin Tryz.prog (fun _ _ => 0) default).world.heap[n]?).bind Obj.row?).isSome = true := ⟨10, by kernel_rfl, by kernel_rfl⟩
  obtain ⟨n, h1, h2⟩ := h0
  obtain ⟨⟨z, t⟩, h3⟩ := Option.isSome_iff_exists.1 h2
  obtain ⟨cs, h4, _⟩ := hs.1 n z t (by omega) h3
  have := (Array.getElem?_eq_some_iff.1 h4).1
  omega
theorem YY {W : World} (hL : laidMetH Tryz.prog GU W) (hs : W.ShapedOpen Tryz.prog) : vK Tryz.prog 4 W := by
  have hf : (GU.filter fun x => x.2.handleName?.isSome) = [] := by kernel_rfl
  unfold laidMetH at hL
  rw [hf] at hL
  have h2 : laidMet Tryz.prog _ W := laidMet.tail (laidMet.tail hL)
  have h4 : laidMet Tryz.prog _ W := laidMet.tail (laidMet.tail h2)
  have h5 : laidMet Tryz.prog _ W := laidMet.tail h4
  have h7 : laidMet Tryz.prog _ W := laidMet.tail (laidMet.tail h5)
  refine ⟨?_, ?_, ?_, ?_, Ux hs, by decide +kernel, fun q hq => ?_⟩
  · refine Lib.tabIs_of_head (rest := GU.drop 3) gPow tPow Tryz.underlying261 Tryz.underlying218 c122 cPow ?_
    rw [← powTab]
    exact h2
  · obtain ⟨a, s, h, _⟩ := laid_sentinel h5 gSyn tSyn uErr (XE (by decide)) Tryz.underlying242 Tryz.underlying244 rfl rfl Tryz.underlying9 c152 c9
    exact ⟨_, _, h⟩
  · obtain ⟨a, s, h, _⟩ := laid_sentinel h4 gRan tRan uErr (XE (by decide)) Tryz.underlying242 Tryz.underlying244 rfl rfl Tryz.underlying9 c152 c9
    exact ⟨_, _, h⟩
  · exact Go.Proofs.cell_of_shapedOpen_int (t := 3) (zero := #[.int .i64 0]) hs (by decide +kernel) (by kernel_rfl) rfl (by kernel_rfl) (by kernel_rfl) Tryz.underlying3
  · refine Lib.tabIs_of_head (rest := GU.drop 8) gAsc tAsc Tryz.underlying182 Tryz.underlying5 cByt cAsc ?_
    rw [← ascTab]
    exact h7
theorem XF (os : Os) (args : Array Value) : laidMetH Tryz.prog GU ((U1 (World.doorLaid Tryz.prog 400 os) 5 (Nu Go.Pinned.utf8First)).forCall (fun _ _ => 0) ⟨#[], args, []⟩).memory :=
  laidMetH_of_parts3 (fuel := 8) (G5 8 (by kernel_rfl) (by kernel_rfl)) (by kernel_rfl) (by kernel_rfl)
end Go.Proofs.YtfclkapelkhlpaaGreatDoor
