/-
  What the listed variables give a walk.
-/
import Derived.Test.YtckocfgmnlhcmaaDoorLiftC
import Derived.Test.YtckocfgmnlhcmaaDoorRows
import Derived.KernelRfl
set_option linter.unusedSimpArgs false
set_option linter.unusedVariables false
set_option linter.unusedVariables false
namespace Go.Proofs.YtckocfgmnlhcmaaDoor
open Go Go.Proofs Go.LX Go.ChangeShapes
def laidL : List (String × DataW Unit) := Rows.imageBackRow.laid
theorem gPow : Tryd.prog.globalNamed "internal/strconv.uint64pow10" = some 1 := by kernel_rfl
theorem gSyn : Tryd.prog.globalNamed "strconv.ErrSyntax" = some 2 := by kernel_rfl
theorem gRan : Tryd.prog.globalNamed "strconv.ErrRange" = some 3 := by kernel_rfl
theorem tPow : (Tryd.prog.globals[1]?).map (·.type) = some 150 := by kernel_rfl
theorem tSyn : (Tryd.prog.globals[2]?).map (·.type) = some 45 := by kernel_rfl
theorem tRan : (Tryd.prog.globals[3]?).map (·.type) = some 45 := by kernel_rfl
theorem cPow : Tryd.prog.cellsOf 150 = 20 := by kernel_rfl
theorem c122 : Tryd.prog.cellsOf 130 = 1 := by kernel_rfl
theorem c152 : Tryd.prog.cellsOf 169 = 1 := by kernel_rfl
theorem c9 : Tryd.prog.cellsOf 9 = 1 := by kernel_rfl
theorem uErr : Tryd.prog.underlying 45 = some (.interface (Tryd.prog.methodsAt 45)) := by kernel_rfl
theorem rowErr {nm : String} (hn : nm = "*" ++ "errors.errorString") (u : TypeId) (h : Tryd.prog.typeName? 3 u = some nm) : u = 167 := by
  subst hn
  exact typeName_ptr_named (nm := "errors.errorString") (by kernel_rfl) (by kernel_rfl) (by decide) u h
theorem powTab : (Rows.laid_internal_strconv_uint64pow10 : DataW Unit) = Lib.tabData .u64 Lib.pow10Tab := by kernel_rfl
theorem heap_many {W : World} (hs : W.ShapedOpen Tryd.prog) : Tryd.prog.globals.size ≤ W.heap.size := by
  have h0 : ∃ n, Tryd.prog.globals.size = n + 1 ∧ (((begin Tryd.prog (fun _ _ => 0) default).world.heap[n]?).bind Obj.row?).isSome = true := ⟨7, by kernel_rfl, by kernel_rfl⟩
  obtain ⟨n, h1, h2⟩ := h0
  obtain ⟨⟨z, t⟩, h3⟩ := Option.isSome_iff_exists.1 h2
  obtain ⟨cs, h4, _⟩ := hs.1 n z t (by omega) h3
  have := (Array.getElem?_eq_some_iff.1 h4).1
  omega
theorem tabs_of {W : World} (hL : laidMetH Tryd.prog laidL W) (hs : W.ShapedOpen Tryd.prog) : Tabs Tryd.prog 0 W := by
  have hf : (laidL.filter fun x => x.2.handleName?.isSome) = [] := by kernel_rfl
  unfold laidMetH at hL
  rw [hf] at hL
  have h2 : laidMet Tryd.prog _ W := laidMet.tail (laidMet.tail hL)
  have h4 : laidMet Tryd.prog _ W := laidMet.tail (laidMet.tail h2)
  have h5 : laidMet Tryd.prog _ W := laidMet.tail h4
  refine ⟨?_, ?_, ?_, ?_, heap_many hs, by decide +kernel⟩
  · refine Lib.tabIs_of_head (rest := laidL.drop 3) gPow tPow Tryd.underlying150 Tryd.underlying130 c122 cPow ?_
    rw [← powTab]
    exact h2
  · obtain ⟨a, s, h, _⟩ := laid_sentinel h5 gSyn tSyn uErr (rowErr (by decide)) Tryd.underlying167 Tryd.underlying169 rfl rfl Tryd.underlying9 c152 c9
    exact ⟨_, _, h⟩
  · obtain ⟨a, s, h, _⟩ := laid_sentinel h4 gRan tRan uErr (rowErr (by decide)) Tryd.underlying167 Tryd.underlying169 rfl rfl Tryd.underlying9 c152 c9
    exact ⟨_, _, h⟩
  · exact Go.Proofs.cell_of_shapedOpen_int (t := 3) (zero := #[.int .i64 0]) hs (by decide +kernel) (by kernel_rfl) rfl (by kernel_rfl) (by kernel_rfl) Tryd.underlying3
theorem laid_met (os : Os) (args : Array Value) : laidMetH Tryd.prog laidL ((laidIn (World.doorLaid Tryd.prog 400 os) 4 (tabCells Go.Pinned.utf8First)).forCall (fun _ _ => 0) ⟨#[], args, []⟩).memory :=
  laidMetH_of_parts3 (fuel := 8) (laidMet_of_run' 8 (by kernel_rfl) (by kernel_rfl)) (by kernel_rfl) (by kernel_rfl)
end Go.Proofs.YtckocfgmnlhcmaaDoor

