/-
  What the law StorySays needs of our own library and of the walks, no more.
-/
import Derived.Test.YteijalgmijkphaaGreatDoorRows
import Derived.Test.YteijalgmijkphaaGreatDoorStorySaysTi
set_option linter.unusedSimpArgs false
set_option linter.unusedVariables false
set_option maxRecDepth 10000
set_option maxHeartbeats 4000000
open Go.Proofs.Tryz renaming prog->cl,underlying371->rT,underlying373->rY,underlying9->ee
open Go.laidMet renaming tail->kb
namespace Go.Proofs.YteijalgmijkphaaGreatDoor
open Go Go.Proofs Go.LX Go.ChangeShapes
def laidL:Zi (String×DataW Unit):=Rows.storySaysRow.laid
theorem gPow:Tryz.prog.globalNamed "internal/strconv.uint64pow10" =some 5:=zq2
theorem gSyn:Tryz.prog.globalNamed "strconv.ErrSyntax" =some 2:=zq2
theorem gRan:Tryz.prog.globalNamed "strconv.ErrRange" =some 3:=zq2
theorem tPow:(Tryz.prog.globals[5]?).map (·.type)=some 379:=zq2
theorem tSyn:(Tryz.prog.globals[2]?).map (·.type)=some 225:=zq2
theorem tRan:(Tryz.prog.globals[3]?).map (·.type)=some 225:=zq2
theorem cPow:Tryz.prog.cellsOf 379=20:=zq2
theorem c122:Tryz.prog.cellsOf 296=1:=zq2
theorem c152:Tryz.prog.cellsOf 373=1:=zq2
theorem c9:Tryz.prog.cellsOf 9=1:=zq2
theorem uErr:Tryz.prog.underlying 225=some (.interface (Tryz.prog.methodsAt 225)):=zq2
theorem rowErr{nm:String}(hn:nm= "*" ++ "errors.errorString")(u:TypeId)(h:Tryz.prog.typeName? 3 u=some nm):u=371:=by
 subst hn;exact typeName_ptr_named (nm:= "errors.errorString") zq2 zq2 zq1 u h
theorem powTab:(Rows.laid_internal_strconv_uint64pow10:DataW Unit)=Lib.tabData .u64 Lib.pow10Tab:=zq2
theorem gAsc:Tryz.prog.globalNamed "strings.asciiSpace" =some 0:=zq2
theorem tAsc:(Tryz.prog.globals[0]?).map (·.type)=some 271:=zq2
theorem cAsc:Tryz.prog.cellsOf 271=256:=zq2
theorem cByt:Tryz.prog.cellsOf 5=1:=zq2
theorem ascTab:(Rows.laid_strings_asciiSpace:DataW Unit)=Lib.tabData .u8 Lib.asciiSpaceTab:=zq2
theorem heap_many{a:World}(hs:a.ShapedOpen cl):Tryz.prog.globals.size<=a.heap.size:=by
 have c:∃n,Tryz.prog.globals.size=n+1/\(((begin cl (fun _ _=>0) default).world.heap[n]?).bind Obj.row?).isSome=true:=⟨10,by kernel_rfl,by kernel_rfl⟩;obtain⟨n,f,e⟩:=c;obtain⟨⟨z,t⟩,b⟩:=Option.isSome_iff_exists.1 e;obtain⟨cs,d,_⟩:=hs.1 n z t V b;have:=(Array.getElem?_eq_some_iff.1 d).1;omega
theorem tabs_of{b:World}(c:laidMetH cl laidL b)(hs:b.ShapedOpen cl):pI cl 4 b:=by
  have g:(laidL.filter fun x=>x.2.handleName?.isSome)=[]:=zq2
  unfold laidMetH at c;rw[g]at c;have f:laidMet cl _ b:=kb<|kb c;have d:laidMet cl _ b:=kb<|kb f;have e:laidMet cl _ b:=kb d;have i:laidMet cl _ b:=kb<|kb e;refine⟨?_,?_,?_,?_,heap_many hs,by decide+kernel,fun q j=>?_⟩
  · refine Lib.tabIs_of_head (rest:=laidL.drop 3) gPow tPow Tryz.underlying379 Tryz.underlying296 c122 cPow ?_;rw[<-powTab];exact f
  · obtain⟨a,s,h,_⟩:=laid_sentinel e gSyn tSyn uErr (rowErr zq1) rT rY Z Z ee c152 c9;exact⟨_,_,h⟩
  · obtain⟨a,s,h,_⟩:=laid_sentinel d gRan tRan uErr (rowErr zq1) rT rY Z Z ee c152 c9;exact⟨_,_,h⟩
  · exact Go.Proofs.cell_of_shapedOpen_int (t:=3) (zero:= #[.int .i64 0]) hs (by decide+kernel) zq2 Z zq2 zq2 Tryz.underlying3
  · refine Lib.tabIs_of_head (rest:=laidL.drop 8) gAsc tAsc Tryz.underlying271 Tryz.underlying5 cByt cAsc ?_;rw[<-ascTab];exact i
theorem laid_met(os:Os)(args:Array Value):laidMetH cl laidL ((laidIn (World.doorLaid cl 400 os) 6 (tabCells Go.Pinned.utf8First)).forCall (fun _ _=>0) ⟨#[],args,[]⟩).memory:=
 laidMetH_of_parts3 (fuel:=8) (laidMet_of_run2 8 zq2 zq2) zq2 zq2
end Go.Proofs.YteijalgmijkphaaGreatDoor