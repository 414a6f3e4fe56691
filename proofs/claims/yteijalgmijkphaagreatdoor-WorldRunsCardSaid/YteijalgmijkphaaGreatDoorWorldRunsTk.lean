/-
  What the law WorldRuns needs of our own library and of the walks, no more.
-/
import Derived.Test.YteijalgmijkphaaGreatDoorRows
import Derived.Test.YteijalgmijkphaaGreatDoorWorldRunsTj
set_option linter.unusedSimpArgs false
set_option linter.unusedVariables false
set_option maxRecDepth 10000
set_option maxHeartbeats 4000000
open Go.Proofs.Tryz renaming prog->cv,underlying371->sX,underlying373->sY,underlying9->ej
open Go.laidMet renaming tail->kf
namespace Go.Proofs.YteijalgmijkphaaGreatDoor
open Go Go.Proofs Go.LX Go.ChangeShapes
def HI:H (String×DataW Unit):=Rows.worldRunsRow.laid
theorem gPow:Tryz.prog.globalNamed "internal/strconv.uint64pow10" =some 5:=Q
theorem gSyn:Tryz.prog.globalNamed "strconv.ErrSyntax" =some 2:=Q
theorem gRan:Tryz.prog.globalNamed "strconv.ErrRange" =some 3:=Q
theorem tPow:(Tryz.prog.globals[5]?).map (·.type)=some 379:=Q
theorem tSyn:(Tryz.prog.globals[2]?).map (·.type)=some 225:=Q
theorem tRan:(Tryz.prog.globals[3]?).map (·.type)=some 225:=Q
theorem cPow:Tryz.prog.cellsOf 379=20:=Q
theorem c122:Tryz.prog.cellsOf 296=1:=Q
theorem c152:Tryz.prog.cellsOf 373=1:=Q
theorem c9:Tryz.prog.cellsOf 9=1:=Q
theorem uErr:Tryz.prog.underlying 225=some (.interface (Tryz.prog.methodsAt 225)):=Q
theorem rowErr{nm:String}(hn:nm= "*" ++ "errors.errorString")(u:TypeId)(h:Tryz.prog.typeName? 3 u=some nm):u=371:=by
 subst hn;exact typeName_ptr_named (nm:= "errors.errorString") Q Q tS u h
theorem powTab:(Rows.laid_internal_strconv_uint64pow10:DataW Unit)=Lib.tabData .u64 Lib.pow10Tab:=Q
theorem gAsc:Tryz.prog.globalNamed "strings.asciiSpace" =some 0:=Q
theorem tAsc:(Tryz.prog.globals[0]?).map (·.type)=some 271:=Q
theorem cAsc:Tryz.prog.cellsOf 271=256:=Q
theorem cByt:Tryz.prog.cellsOf 5=1:=Q
theorem ascTab:(Rows.laid_strings_asciiSpace:DataW Unit)=Lib.tabData .u8 Lib.asciiSpaceTab:=Q
theorem heap_many{a:World}(W:a.ShapedOpen cv):Tryz.prog.globals.size<=a.heap.size:=by
 have c:∃n,Tryz.prog.globals.size=n+1/\(((begin cv (λ_ _=>0) default).world.heap[n]?).bind Obj.row?).isSome=true:=⟨10,by kernel_rfl,by kernel_rfl⟩;obtain⟨n,f,b⟩:=c;obtain⟨⟨z,t⟩,e⟩:=Option.isSome_iff_exists.1 b;obtain⟨cs,d,_⟩:=W.1 n z t V e;have:=(Array.getElem?_eq_some_iff.1 d).1;omega
theorem tabs_of{b:World}(c:laidMetH cv HI b)(W:b.ShapedOpen cv):ql cv 4 b:=by
  have i:(HI.filter λx=>x.2.handleName?.isSome)=[]:=Q
  unfold laidMetH at c;rw[i]at c;have d:laidMet cv _ b:=kf<|kf c;have f:laidMet cv _ b:=kf<|kf d;have e:laidMet cv _ b:=kf f;have g:laidMet cv _ b:=kf<|kf e;refine⟨?_,?_,?_,?_,heap_many W,by decide+kernel,λq j=>?_⟩
  · refine Lib.tabIs_of_head (rest:=HI.drop 3) gPow tPow Tryz.underlying379 Tryz.underlying296 c122 cPow ?_;rw[<-powTab];exact d
  · obtain⟨a,s,h,_⟩:=laid_sentinel e gSyn tSyn uErr (rowErr tS) sX sY Z Z ej c152 c9;exact⟨_,_,h⟩
  · obtain⟨a,s,h,_⟩:=laid_sentinel f gRan tRan uErr (rowErr tS) sX sY Z Z ej c152 c9;exact⟨_,_,h⟩
  · exact Go.Proofs.cell_of_shapedOpen_int (t:=3) (zero:= #[.int .i64 0]) W (by decide+kernel) Q Z Q Q Tryz.underlying3
  · refine Lib.tabIs_of_head (rest:=HI.drop 8) gAsc tAsc Tryz.underlying271 Tryz.underlying5 cByt cAsc ?_;rw[<-ascTab];exact g
theorem laid_met(os:Os)(args:Array Value):laidMetH cv HI ((laidIn (World.doorLaid cv 400 os) 6 (tabCells Go.Pinned.utf8First)).forCall (λ_ _=>0) ⟨#[],args,[]⟩).memory:=
 laidMetH_of_parts3 (fuel:=8) (HT 8 Q Q) Q Q
end Go.Proofs.YteijalgmijkphaaGreatDoor