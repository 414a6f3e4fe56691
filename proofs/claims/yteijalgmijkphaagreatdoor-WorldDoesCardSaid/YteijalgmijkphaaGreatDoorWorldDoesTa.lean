/-
  What the law WorldDoes needs of our own library and of the walks, no more.
-/
import Derived.Test.YteijalgmijkphaaGreatDoorProg
import Derived.Lib.Strings
import Derived.Lib.Slices
import Derived.Lib.Walk
import Derived.Lib.Bytealg
import Derived.Lib.Small
import Derived.Lib.BitFns
open Go.Lib renaming bitLen_le8'->gE,indexByte->oB,len8_of->kf
open Go.Proofs.Tryz renaming prog->cw
namespace Go
theorem Z3.{u}{c:Prop}{h:Decidable c}(q:¬c){α:Sort u}{t e:α}:ite c t e=e:=if_neg q
theorem Z2.{u}{c:Prop}{h:Decidable c}(q:c){α:Sort u}{t e:α}:ite c t e=t:=if_pos q
theorem Z1.{u}{α:Sort u}(a b:α):cond false a b=b:=rfl
theorem ZW.{u}{α:Sort u}(a b:α):cond true a b=a:=rfl
theorem ZS.{u,v}{α:Sort u}{β:Sort v}{a b:α}(f:α->β)(h:a=b):f a=f b:=congrArg f h
theorem ZD{a:Prop}{b:Prop}(h:a)(q:¬a):b:=absurd h q
abbrev H.{u}(α:Type u):Type u:=List α
abbrev B.{u}(α:Type u):Type u:=Option α
abbrev Yi:Type:=Bool
end Go
namespace Go
theorem Z.{u} {α : Sort u} {a : α} : a = a := rfl
theorem an : True := trivial
theorem V {p : Prop} (h : p := by omega) : p := h
theorem tz {p : Prop} (h : p := by decide) : p := h
theorem L {p : Prop} (h : p := by kernel_rfl) : p := h
theorem C3 {p : Prop} (h : p := by simp) : p := h
end Go
set_option linter.unusedSimpArgs false
set_option linter.unusedVariables false
set_option maxRecDepth 10000
set_option maxHeartbeats 4000000
namespace Go.Proofs
set_option maxHeartbeats 1000000 in
set_option maxRecDepth 100000 in
theorem Tryz.stringslite_IndexByte(s:ByteArray)(c:Int)(w:World):
  Calls cw 288 #[.string s,.int .u8 c] w λe w'=>e=.returned (.int .i64 (oB s.data.toList c.toNat.toUInt8))/\w'=w:=by
 go_enter Tryz.func288,Tryz.ntmps288
 go_wp2
 rw[run_callFunc_extern Tryz.func304 L L L (e:=Extern.BytealgIndexByte.indexByte) L,Lib.run_indexByteString];simp only[Result.andThen];rw[Oper.upon_value]
 go_wp2
 go_ret
 exact⟨Z,Z⟩
set_option maxHeartbeats 2000000 in
set_option maxRecDepth 100000 in
theorem Tryz.stringslite_Index_one(s:ByteArray)(c:UInt8)(w:World):
    Calls cw 263 #[.string s,.string ⟨#[c]⟩] w λe w'=>e=.returned (.int .i64 (oB s.data.toList c))/\w'=w:=by
  go_enter Tryz.func263,Tryz.ntmps263
  go_wp2_with (go_at_call 288;refine(Tryz.stringslite_IndexByte _ _ _).mono ?_;rintro e w'⟨rfl,rfl⟩)
  · have h:([c]==s.toList)=true:=by assumption
    go_ret
    refine⟨?_,Z⟩;have e:s.data.toList=[c]:=by rw[<-Lib.toList_data];exact(beq_iff_eq.1 h).symm
    rw[e];simp[oB]
  · go_ret
    exact⟨Z,Z⟩
set_option maxHeartbeats 1000000 in
theorem Tryz.strings_Index_one(s:ByteArray)(c:UInt8)(w:World):
  Calls cw 226 #[.string s,.string ⟨#[c]⟩] w λe w'=>e=.returned (.int .i64 (oB s.data.toList c))/\w'=w:=by
 go_enter Tryz.func226,Tryz.ntmps226
 go_wp2_with (go_at_call 263;refine(Tryz.stringslite_Index_one _ _ _).mono ?_;rintro e w'⟨rfl,rfl⟩)
 go_ret
 exact⟨Z,Z⟩
set_option maxHeartbeats 1000000 in
theorem Tryz.strings_Contains_one(s:ByteArray)(c:UInt8)(w:World):
  Calls cw 183 #[.string s,.string ⟨#[c]⟩] w λe w'=>e=.returned (.bool (decide (0<=oB s.data.toList c)))/\w'=w:=by
 go_enter Tryz.func183,Tryz.ntmps183
 go_wp2_with (go_at_call 226;refine(Tryz.strings_Index_one _ _ _).mono ?_;rintro e w'⟨rfl,rfl⟩)
 go_ret
 exact⟨Z,Z⟩
set_option maxHeartbeats 4000000 in
set_option maxRecDepth 100000 in
theorem Tryz.bits_Len64 (x : Int) (w : World) (h0 : 0 <= x) (h1 : x <= 18446744073709551615) :
    Calls cw 236 #[.int .u64 x] w λe w' => e = .returned (.int .i64 (Lib.bitLen x.toNat)) /\ w' = w := by
  go_enter Tryz.func236, Tryz.ntmps236
  go_wp2
  all_goals (go_ret; refine ⟨ZS Ending.returned (ZS (Value.int IntKind.i64) ?_), rfl⟩)
  all_goals first
    | (rw [kf (x / 4294967296 / 65536 / 256 % 256) (by omega) (by omega)]
       have e : (x / 4294967296 / 65536 / 256 % 256).toNat = x.toNat / 72057594037927936 := by omega
       have l := gE (x / 4294967296 / 65536 / 256 % 256) (by omega) (by omega)
       have s := Lib.bitLen_shift56 x.toNat (by omega) (by omega)
       rw [e] at l ⊢
       omega)
    | (rw [kf (x / 4294967296 / 65536 % 256) (by omega) (by omega)]
       have e : (x / 4294967296 / 65536 % 256).toNat = x.toNat / 281474976710656 := by omega
       have l := gE (x / 4294967296 / 65536 % 256) (by omega) (by omega)
       have s := Lib.bitLen_shift48 x.toNat (by omega) (by omega)
       rw [e] at l ⊢
       omega)
    | (rw [kf (x / 4294967296 / 256 % 256) (by omega) (by omega)]
       have e : (x / 4294967296 / 256 % 256).toNat = x.toNat / 1099511627776 := by omega
       have l := gE (x / 4294967296 / 256 % 256) (by omega) (by omega)
       have s := Lib.bitLen_shift40 x.toNat (by omega) (by omega)
       rw [e] at l ⊢
       omega)
    | (rw [kf (x / 4294967296 % 256) (by omega) (by omega)]
       have e : (x / 4294967296 % 256).toNat = x.toNat / 4294967296 := by omega
       have l := gE (x / 4294967296 % 256) (by omega) (by omega)
       have s := Lib.bitLen_shift32 x.toNat (by omega) (by omega)
       rw [e] at l ⊢
       omega)
    | (rw [kf (x / 65536 / 256 % 256) (by omega) (by omega)]
       have e : (x / 65536 / 256 % 256).toNat = x.toNat / 16777216 := by omega
       have l := gE (x / 65536 / 256 % 256) (by omega) (by omega)
       have s := Lib.bitLen_shift24 x.toNat (by omega) (by omega)
       rw [e] at l ⊢
       omega)
    | (rw [kf (x / 65536 % 256) (by omega) (by omega)]
       have e : (x / 65536 % 256).toNat = x.toNat / 65536 := by omega
       have l := gE (x / 65536 % 256) (by omega) (by omega)
       have s := Lib.bitLen_shift16 x.toNat (by omega) (by omega)
       rw [e] at l ⊢
       omega)
    | (rw [kf (x / 256 % 256) (by omega) (by omega)]
       have e : (x / 256 % 256).toNat = x.toNat / 256 := by omega
       have l := gE (x / 256 % 256) (by omega) (by omega)
       have s := Lib.bitLen_shift8 x.toNat (by omega) (by omega)
       rw [e] at l ⊢
       omega)
    | (rw [kf (x % 256) (by omega) (by omega)]
       have e : (x % 256).toNat = x.toNat := by omega
       have l := gE (x % 256) (by omega) (by omega)
       rw [e] at l ⊢
       omega)
theorem Tryz.bits_Len(x:Int)(w:World)(h0:0<=x)(h1:x<=18446744073709551615):
  Calls cw 185 #[.int .u64 x] w λe w'=>e=.returned (.int .i64 (Lib.bitLen x.toNat))/\w'=w:=by
 go_enter Tryz.func185,Tryz.ntmps185
 go_wp2_with (go_at_call 236;refine(Tryz.bits_Len64 x _ h0 h1).mono ?_;rintro e w'⟨rfl,rfl⟩)
 go_ret
 exact⟨Z,Z⟩
end Go.Proofs