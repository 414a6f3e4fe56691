/-
  What the law CodeMeans needs of our own library and of the walks, no more.
-/
import Derived.Test.YtcbdckebgjdlhaaGreatDoorRows
import Derived.Test.YtcbdckebgjdlhaaGreatDoorCodeMeansTg
set_option linter.unusedSimpArgs false
set_option linter.unusedVariables false
set_option maxRecDepth 10000
namespace Go.Proofs.YtcbdckebgjdlhaaGreatDoor
open Go Go.Proofs Go.LX Go.ChangeShapes
def Lh:List (String×DataW Unit):=Rows.codeMeansRow.laid
theorem gPow:Tryz.prog.globalNamed "internal/strconv.uint64pow10" =some 7:=zq2
theorem gSyn:Tryz.prog.globalNamed "strconv.ErrSyntax" =some 2:=zq2
theorem gRan:Tryz.prog.globalNamed "strconv.ErrRange" =some 3:=zq2
theorem tPow:(Tryz.prog.globals[7]?).map (·.type)=some 222:=zq2
theorem tSyn:(Tryz.prog.globals[2]?).map (·.type)=some 109:=zq2
theorem tRan:(Tryz.prog.globals[3]?).map (·.type)=some 109:=zq2
theorem cPow:Tryz.prog.cellsOf 222=20:=zq2
theorem c122:Tryz.prog.cellsOf 179=1:=zq2
theorem c152:Tryz.prog.cellsOf 205=1:=zq2
theorem c9:Tryz.prog.cellsOf 9=1:=zq2
theorem uErr:Tryz.prog.underlying 109=some (.interface (Tryz.prog.methodsAt 109)):=zq2
theorem rowErr{nm:String}(hn:nm= "*" ++ "errors.errorString")(u:TypeId)(h:Tryz.prog.typeName? 3 u=some nm):u=203:=by
 subst hn;exact typeName_ptr_named (nm:= "errors.errorString") zq2 zq2 zq1 u h
theorem powTab:(Rows.laid_internal_strconv_uint64pow10:DataW Unit)=Lib.tabData .u64 Lib.pow10Tab:=zq2
theorem gAsc:Tryz.prog.globalNamed "strings.asciiSpace" =some 0:=zq2
theorem tAsc:(Tryz.prog.globals[0]?).map (·.type)=some 135:=zq2
theorem cAsc:Tryz.prog.cellsOf 135=256:=zq2
theorem cByt:Tryz.prog.cellsOf 5=1:=zq2
theorem ascTab:(Rows.laid_strings_asciiSpace:DataW Unit)=Lib.tabData .u8 Lib.asciiSpaceTab:=zq2
theorem Y0{a:World}(d:a.ShapedOpen Tryz.prog):Tryz.prog.globals.size<=a.heap.size:=by
 have c:∃n,Tryz.prog.globals.size=n+1/\(((begin Tryz.prog (fun _ _=>0) default).world.heap[n]?).bind Obj.row?).isSome=true:=⟨10,by kernel_rfl,by kernel_rfl⟩;obtain⟨n,g,f⟩:=c;obtain⟨⟨z,t⟩,b⟩:=Option.isSome_iff_exists.1 f;obtain⟨cs,e,_⟩:=d.1 n z t V b;have:=(Array.getElem?_eq_some_iff.1 e).1;omega
theorem tabs_of{b:World}(c:laidMetH Tryz.prog Lh b)(e:b.ShapedOpen Tryz.prog):yZ Tryz.prog 4 b:=by
  have i:(Lh.filter fun x=>x.2.handleName?.isSome)=[]:=zq2
  unfold laidMetH at c;rw[i]at c;have g:laidMet Tryz.prog _ b:=laidMet.tail<|laidMet.tail c;have f:laidMet Tryz.prog _ b:=laidMet.tail<|laidMet.tail g;have d:laidMet Tryz.prog _ b:=laidMet.tail f;have j:laidMet Tryz.prog _ b:=laidMet.tail<|laidMet.tail d;refine⟨?_,?_,?_,?_,Y0 e,by decide+kernel,fun q k=>?_⟩
  · refine Lib.tabIs_of_head (rest:=Lh.drop 3) gPow tPow Tryz.underlying222 Tryz.underlying179 c122 cPow ?_;rw[<-powTab];exact g
  · obtain⟨a,s,h,_⟩:=laid_sentinel d gSyn tSyn uErr (rowErr zq1) Tryz.underlying203 Tryz.underlying205 Z Z Tryz.underlying9 c152 c9;exact⟨_,_,h⟩
  · obtain⟨a,s,h,_⟩:=laid_sentinel f gRan tRan uErr (rowErr zq1) Tryz.underlying203 Tryz.underlying205 Z Z Tryz.underlying9 c152 c9;exact⟨_,_,h⟩
  · exact Go.Proofs.cell_of_shapedOpen_int (t:=3) (zero:= #[.int .i64 0]) e (by decide+kernel) zq2 Z zq2 zq2 Tryz.underlying3
  · refine Lib.tabIs_of_head (rest:=Lh.drop 8) gAsc tAsc Tryz.underlying135 Tryz.underlying5 cByt cAsc ?_;rw[<-ascTab];exact j
theorem laid_met(os:Os)(args:Array Value):laidMetH Tryz.prog Lh ((ZA (World.doorLaid Tryz.prog 400 os) 5 (RU Go.Pinned.utf8First)).forCall (fun _ _=>0) ⟨#[],args,[]⟩).memory:=
 laidMetH_of_parts3 (fuel:=8) (Ll 8 zq2 zq2) zq2 zq2
end Go.Proofs.YtcbdckebgjdlhaaGreatDoor