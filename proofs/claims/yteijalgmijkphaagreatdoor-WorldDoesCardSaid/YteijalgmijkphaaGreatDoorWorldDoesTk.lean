/-
  What the law WorldDoes needs of our own library and of the walks, no more.
-/
import Derived.Test.YteijalgmijkphaaGreatDoorRows
import Derived.Test.YteijalgmijkphaaGreatDoorWorldDoesTj
set_option linter.unusedSimpArgs false
set_option linter.unusedVariables false
set_option maxRecDepth 10000
set_option maxHeartbeats 4000000
open Go.Proofs.Tryz renaming prog->cw,underlying371->sv,underlying373->sx,underlying9->ej
open Go.laidMet renaming tail->ke
namespace Go.Proofs.YteijalgmijkphaaGreatDoor
open Go Go.Proofs Go.LX Go.ChangeShapes
def G3:H (String×DataW Unit):=Rows.worldRunsRow.laid
theorem gPow:Tryz.prog.globalNamed "internal/strconv.uint64pow10" =some 5:=L
theorem gSyn:Tryz.prog.globalNamed "strconv.ErrSyntax" =some 2:=L
theorem gRan:Tryz.prog.globalNamed "strconv.ErrRange" =some 3:=L
theorem tPow:(Tryz.prog.globals[5]?).map (·.type)=some 379:=L
theorem tSyn:(Tryz.prog.globals[2]?).map (·.type)=some 225:=L
theorem tRan:(Tryz.prog.globals[3]?).map (·.type)=some 225:=L
theorem cPow:Tryz.prog.cellsOf 379=20:=L
theorem c122:Tryz.prog.cellsOf 296=1:=L
theorem c152:Tryz.prog.cellsOf 373=1:=L
theorem c9:Tryz.prog.cellsOf 9=1:=L
theorem uErr:Tryz.prog.underlying 225=some (.interface (Tryz.prog.methodsAt 225)):=L
theorem rowErr{nm:String}(hn:nm= "*" ++ "errors.errorString")(u:TypeId)(h:Tryz.prog.typeName? 3 u=some nm):u=371:=by
 subst hn;exact typeName_ptr_named (nm:= "errors.errorString") L L tz u h
theorem powTab:(Rows.laid_internal_strconv_uint64pow10:DataW Unit)=Lib.tabData .u64 Lib.pow10Tab:=L
theorem gAsc:Tryz.prog.globalNamed "strings.asciiSpace" =some 0:=L
theorem tAsc:(Tryz.prog.globals[0]?).map (·.type)=some 271:=L
theorem cAsc:Tryz.prog.cellsOf 271=256:=L
theorem cByt:Tryz.prog.cellsOf 5=1:=L
theorem ascTab:(Rows.laid_strings_asciiSpace:DataW Unit)=Lib.tabData .u8 Lib.asciiSpaceTab:=L
theorem heap_many{a:World}(W:a.ShapedOpen cw):Tryz.prog.globals.size<=a.heap.size:=by
 have c:∃n,Tryz.prog.globals.size=n+1/\(((begin cw (λ_ _=>0) default).world.heap[n]?).bind Obj.row?).isSome=true:=⟨10,by kernel_rfl,by kernel_rfl⟩;obtain⟨n,f,d⟩:=c;obtain⟨⟨z,t⟩,e⟩:=Option.isSome_iff_exists.1 d;obtain⟨cs,b,_⟩:=W.1 n z t V e;have:=(Array.getElem?_eq_some_iff.1 b).1;omega
theorem tabs_of{b:World}(c:laidMetH cw G3 b)(W:b.ShapedOpen cw):qf cw 4 b:=by
  have g:(G3.filter λx=>x.2.handleName?.isSome)=[]:=L
  unfold laidMetH at c;rw[g]at c;have e:laidMet cw _ b:=ke<|ke c;have f:laidMet cw _ b:=ke<|ke e;have d:laidMet cw _ b:=ke f;have i:laidMet cw _ b:=ke<|ke d;refine⟨?_,?_,?_,?_,heap_many W,by decide+kernel,λq j=>?_⟩
  · refine Lib.tabIs_of_head (rest:=G3.drop 3) gPow tPow Tryz.underlying379 Tryz.underlying296 c122 cPow ?_;rw[<-powTab];exact e
  · obtain⟨a,s,h,_⟩:=laid_sentinel d gSyn tSyn uErr (rowErr tz) sv sx Z Z ej c152 c9;exact⟨_,_,h⟩
  · obtain⟨a,s,h,_⟩:=laid_sentinel f gRan tRan uErr (rowErr tz) sv sx Z Z ej c152 c9;exact⟨_,_,h⟩
  · exact Go.Proofs.cell_of_shapedOpen_int (t:=3) (zero:= #[.int .i64 0]) W (by decide+kernel) L Z L L Tryz.underlying3
  · refine Lib.tabIs_of_head (rest:=G3.drop 8) gAsc tAsc Tryz.underlying271 Tryz.underlying5 cByt cAsc ?_;rw[<-ascTab];exact i
theorem laid_met(os:Os)(args:Array Value):laidMetH cw G3 ((laidIn (World.doorLaid cw 400 os) 6 (tabCells Go.Pinned.utf8First)).forCall (λ_ _=>0) ⟨#[],args,[]⟩).memory:=
 laidMetH_of_parts3 (fuel:=8) (HC 8 L L) L L
end Go.Proofs.YteijalgmijkphaaGreatDoor