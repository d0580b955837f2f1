/- strings.Builder's Grow at this program: the library's own theorem (the shelf's), applied. -/
import Derived.Test.YtnapcfpecpgdbaaDoorProg
import Derived.Shelf.Strings.BuilderK
import Derived.Shelf.Strings.Builder2
namespace Go.Proofs
open Go.Shelf Go.RowKit
def Tryd.lays165_ren : Go.Shelf.Ren := ⟨fun | 165 => 90 | 240 => 77 | 241 => 102 | 276 => 88 | 277 => 105 | n => n, fun | 0 => 0 | 3 => 3 | 4 => 4 | 5 => 5 | 9 => 9 | 20 => 20 | 37 => 91 | 70 => 96 | 72 => 98 | 80 => 102 | 164 => 127 | n => n, fun | n => n⟩
theorem Tryd.lays165 : Go.Proofs.Lays.n165 Tryd.prog Tryd.lays165_ren := {
 mixed := by kernel_rfl
 f165 := Tryd.func90.trans (congrArg some (by kernel_rfl))
 f240 := Tryd.func77.trans (congrArg some (by kernel_rfl))
 f241 := Tryd.func102.trans (congrArg some (by kernel_rfl))
 f276 := Tryd.func88.trans (congrArg some (by kernel_rfl))
 f277 := Tryd.func105.trans (congrArg some (by kernel_rfl))
 t0 := Tryd.underlying0
 a0 := Tryd.isAgg0
 z0 := Tryd.sizeOf0
 v0 := Tryd.zeroValue0
 t3 := Tryd.underlying3
 a3 := Tryd.isAgg3
 z3 := Tryd.sizeOf3
 v3 := Tryd.zeroValue3
 t4 := Tryd.underlying4
 a4 := Tryd.isAgg4
 z4 := Tryd.sizeOf4
 v4 := Tryd.zeroValue4
 t9 := Tryd.underlying9
 a9 := Tryd.isAgg9
 z9 := Tryd.sizeOf9
 v9 := Tryd.zeroValue9
 t20 := Tryd.underlying20
 a20 := Tryd.isAgg20
 z20 := Tryd.sizeOf20
 v20 := Tryd.zeroValue20
 t37 := Tryd.underlying91
 a37 := Tryd.isAgg91
 z37 := Tryd.sizeOf91
 v37 := Tryd.zeroValue91
 t70 := Tryd.underlying96
 a70 := Tryd.isAgg96
 z70 := Tryd.sizeOf96
 v70 := Tryd.zeroValue96
 t72 := Tryd.underlying98
 a72 := Tryd.isAgg98
 z72 := Tryd.sizeOf98
 v72 := Tryd.zeroValue98
 t164 := Tryd.underlying127
 a164 := Tryd.isAgg127
 z164 := Tryd.sizeOf127
 v164 := Tryd.zeroValue127 }
theorem Tryd.Builder_Extra_165 : Builder.Extra Tryd.prog Tryd.lays165_ren := {
 sizeBuilder := by kernel_rfl
 liesBuilder := by kernel_rfl
 t5 := Tryd.underlying5
 a5 := Tryd.isAgg5
 z5 := Tryd.sizeOf5
 v5 := Tryd.zeroValue5
 infoByte := by kernel_rfl
 cellsByte := by kernel_rfl
 sizeByte := by kernel_rfl
 neB5 := by decide }
theorem Tryd.builder_Grow (B b n : Nat) (w : World) (hB : B ≤ b) (hbk : w.heap[b]? = some (.cells #[.pointer none, .slice none 0 0] 98 (0, 0))) (hBw : B ≤ w.heap.size) (hn : n ≤ 281474976710656) :
 Calls Tryd.prog 90 #[.pointer (some ⟨b, 0, none⟩), .int .i64 n] w fun e w' => e = .returned (.tuple #[]) ∧ (Lib.BuilderAt 98 5 B b (.pointer (some ⟨b, 0, none⟩)) [] w' ∧ Below B w w') :=
 Any.Builder_Grow_fresh Tryd.lays165 Tryd.Builder_Extra_165 B b n w hB hbk hBw hn
end Go.Proofs
