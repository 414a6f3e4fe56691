/-
  What the law StoryMoves needs of our own library and of the walks, no more.
-/
import Derived.Test.YtodkbibbgakkdaaGreatDoorRows
import Derived.Test.YtodkbibbgakkdaaGreatDoorStoryMovesTi
set_option linter.unusedSimpArgs false
set_option linter.unusedVariables false
set_option maxRecDepth 10000
open Go.laidMet renaming tail->ij
namespace Go.Proofs.YtodkbibbgakkdaaGreatDoor
open Go Go.Proofs Go.LX Go.ChangeShapes
def YB:ZD (String×DataW Unit):=Rows.worldTwiceRow.laid
theorem gPow:Tryz.prog.globalNamed "internal/strconv.uint64pow10" =some 7:=zq2
theorem gSyn:Tryz.prog.globalNamed "strconv.ErrSyntax" =some 2:=zq2
theorem gRan:Tryz.prog.globalNamed "strconv.ErrRange" =some 3:=zq2
theorem tPow:(Tryz.prog.globals[7]?).map (·.type)=some 342:=zq2
theorem tSyn:(Tryz.prog.globals[2]?).map (·.type)=some 176:=zq2
theorem tRan:(Tryz.prog.globals[3]?).map (·.type)=some 176:=zq2
theorem cPow:Tryz.prog.cellsOf 342=20:=zq2
theorem c122:Tryz.prog.cellsOf 296=1:=zq2
theorem c152:Tryz.prog.cellsOf 323=1:=zq2
theorem c9:Tryz.prog.cellsOf 9=1:=zq2
theorem uErr:Tryz.prog.underlying 176=some (.interface (Tryz.prog.methodsAt 176)):=zq2
theorem rowErr{nm:String}(hn:nm= "*" ++ "errors.errorString")(u:TypeId)(h:Tryz.prog.typeName? 3 u=some nm):u=321:=by
 subst hn;exact typeName_ptr_named (nm:= "errors.errorString") zq2 zq2 zq1 u h
theorem powTab:(Rows.laid_internal_strconv_uint64pow10:DataW Unit)=Lib.tabData .u64 Lib.pow10Tab:=zq2
theorem gAsc:Tryz.prog.globalNamed "strings.asciiSpace" =some 0:=zq2
theorem tAsc:(Tryz.prog.globals[0]?).map (·.type)=some 242:=zq2
theorem cAsc:Tryz.prog.cellsOf 242=256:=zq2
theorem cByt:Tryz.prog.cellsOf 5=1:=zq2
theorem ascTab:(Rows.laid_strings_asciiSpace:DataW Unit)=Lib.tabData .u8 Lib.asciiSpaceTab:=zq2
theorem heap_many{a:World}(e:a.ShapedOpen Tryz.prog):Tryz.prog.globals.size<=a.heap.size:=by
 have b:∃n,Tryz.prog.globals.size=n+1/\(((begin Tryz.prog (fun _ _=>0) default).world.heap[n]?).bind Obj.row?).isSome=true:=⟨10,by kernel_rfl,by kernel_rfl⟩;obtain⟨n,g,d⟩:=b;obtain⟨⟨z,t⟩,c⟩:=Option.isSome_iff_exists.1 d;obtain⟨cs,f,_⟩:=e.1 n z t V c;have:=(Array.getElem?_eq_some_iff.1 f).1;omega
theorem tabs_of{b:World}(c:laidMetH Tryz.prog YB b)(d:b.ShapedOpen Tryz.prog):qY Tryz.prog 4 b:=by
  have i:(YB.filter fun x=>x.2.handleName?.isSome)=[]:=zq2
  unfold laidMetH at c;rw[i]at c;have f:laidMet Tryz.prog _ b:=ij<|ij c;have g:laidMet Tryz.prog _ b:=ij<|ij f;have e:laidMet Tryz.prog _ b:=ij g;have j:laidMet Tryz.prog _ b:=ij<|ij e;refine⟨?_,?_,?_,?_,heap_many d,by decide+kernel,fun q k=>?_⟩
  · refine Lib.tabIs_of_head (rest:=YB.drop 3) gPow tPow Tryz.underlying342 Tryz.underlying296 c122 cPow ?_;rw[<-powTab];exact f
  · obtain⟨a,s,h,_⟩:=laid_sentinel e gSyn tSyn uErr (rowErr zq1) Tryz.underlying321 Tryz.underlying323 Z Z Tryz.underlying9 c152 c9;exact⟨_,_,h⟩
  · obtain⟨a,s,h,_⟩:=laid_sentinel g gRan tRan uErr (rowErr zq1) Tryz.underlying321 Tryz.underlying323 Z Z Tryz.underlying9 c152 c9;exact⟨_,_,h⟩
  · exact Go.Proofs.cell_of_shapedOpen_int (t:=3) (zero:= #[.int .i64 0]) d (by decide+kernel) zq2 Z zq2 zq2 Tryz.underlying3
  · refine Lib.tabIs_of_head (rest:=YB.drop 8) gAsc tAsc Tryz.underlying242 Tryz.underlying5 cByt cAsc ?_;rw[<-ascTab];exact j
theorem laid_met(os:Os)(args:Array Value):laidMetH Tryz.prog YB ((laidIn (World.doorLaid Tryz.prog 400 os) 5 (tabCells Go.Pinned.utf8First)).forCall (fun _ _=>0) ⟨#[],args,[]⟩).memory:=
 laidMetH_of_parts3 (fuel:=8) (YD 8 zq2 zq2) zq2 zq2
end Go.Proofs.YtodkbibbgakkdaaGreatDoor