/- The library's contracts at this program (the shelf's, laid in plain words). -/
import Derived.Test.YtnapcfpecpgdbaaDoorProg
import Derived.Shelf.Strings.Search1
import Derived.Shelf.Strings.Search2
namespace Go.Proofs
open Go.Shelf
def Tryd.lays219_ren : Go.Shelf.Ren := ⟨fun | 219 => 81 | 217 => 85 | 225 => 94 | 224 => 95 | 267 => 96 | 266 => 97 | 314 => 104 | n => n, fun | 9 => 9 | 3 => 3 | 4 => 4 | 5 => 5 | 46 => 135 | 146 => 141 | 51 => 121 | n => n, fun | 1 => 0 | n => n⟩
theorem Tryd.lays219 : Go.Proofs.Lays.n219 Tryd.prog Tryd.lays219_ren := {
 mixed := by kernel_rfl
 f217 := Tryd.func85.trans (congrArg some (by kernel_rfl))
 f219 := Tryd.func81.trans (congrArg some (by kernel_rfl))
 f224 := Tryd.func95.trans (congrArg some (by kernel_rfl))
 f225 := Tryd.func94.trans (congrArg some (by kernel_rfl))
 f266 := Tryd.func97.trans (congrArg some (by kernel_rfl))
 f267 := Tryd.func96.trans (congrArg some (by kernel_rfl))
 f314 := Tryd.func104.trans (congrArg some (by kernel_rfl))
 t3 := Tryd.underlying3
 a3 := Tryd.isAgg3
 z3 := Tryd.sizeOf3
 v3 := Tryd.zeroValue3
 t4 := Tryd.underlying4
 a4 := Tryd.isAgg4
 z4 := Tryd.sizeOf4
 v4 := Tryd.zeroValue4
 t5 := Tryd.underlying5
 a5 := Tryd.isAgg5
 z5 := Tryd.sizeOf5
 v5 := Tryd.zeroValue5
 t9 := Tryd.underlying9
 a9 := Tryd.isAgg9
 z9 := Tryd.sizeOf9
 v9 := Tryd.zeroValue9
 t46 := Tryd.underlying135
 a46 := Tryd.isAgg135
 z46 := Tryd.sizeOf135
 v46 := Tryd.zeroValue135
 t51 := Tryd.underlying121
 a51 := Tryd.isAgg121
 z51 := Tryd.sizeOf121
 v51 := Tryd.zeroValue121
 t146 := Tryd.underlying141
 a146 := Tryd.isAgg141
 z146 := Tryd.sizeOf141
 v146 := Tryd.zeroValue141
 g1 := by kernel_rfl }
theorem Tryd.stringslite_Index_one (s : ByteArray) (c : UInt8) (w : World) :
 Calls Tryd.prog 81 #[.string s, .string ⟨#[c]⟩] w fun e w' => e = .returned (.int .i64 (Lib.indexByte s.data.toList c)) ∧ w' = w := Any.stringslite_Index_one Tryd.lays219 s c w
end Go.Proofs
