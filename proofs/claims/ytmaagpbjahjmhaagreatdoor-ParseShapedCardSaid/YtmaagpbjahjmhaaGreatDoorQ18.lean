/- Parts: Li. -/
import Derived.Shelf.Small.Strs
import Derived.Shelf.Strconv.Itoa0
import Derived.Shelf.Strconv.Itoa1
import Derived.Shelf.LaysM
import Derived.Shelf.Strconv.Itoa2
import Derived.Shelf.Strconv.Itoa3
import Derived.Shelf.Strings.Search1
import Derived.Test.YtmaagpbjahjmhaaGreatDoorChecked
namespace Go.Proofs.YtmaagpbjahjmhaaGreatDoor
open Go.Shelf
def shl.lays137_ren:Go.Shelf.Ren:=⟨fun|137=>55|217=>119|266=>163|n=>n,fun|9=>9|5=>5|3=>3|n=>n,fun|n=>n⟩
theorem shl.lays137:Go.Proofs.Lays.n137 Tryz.prog shl.lays137_ren:= {
 mixed:=by kernel_rfl
 f137:=Tryz.func55.trans (congrArg some (by kernel_rfl))
 f217:=Tryz.func119.trans (congrArg some (by kernel_rfl))
 f266:=Tryz.func163.trans (congrArg some (by kernel_rfl))
 t3:=Tryz.underlying3
 a3:=Tryz.isAgg3
 z3:=Tryz.sizeOf3
 v3:=Tryz.zeroValue3
 t5:=Tryz.underlying5
 a5:=Tryz.isAgg5
 z5:=Tryz.sizeOf5
 v5:=Tryz.zeroValue5
 t9:=Tryz.underlying9
 a9:=Tryz.isAgg9
 z9:=Tryz.sizeOf9
 v9:=Tryz.zeroValue9 }
open Go.RowKit in
theorem shl.strings_IndexByte (s:ByteArray) (c:Int) (w:World):
  Calls Tryz.prog 55 #[.string s,.int .u8 c] w fun e w'=>e= .returned (.int .i64 (Lib.indexByte s.data.toList c.toNat.toUInt8))∧w'=w:=Any.strings_IndexByte shl.lays137 s c w
end Go.Proofs.YtmaagpbjahjmhaaGreatDoor
