/- Parts: Lm. -/
import Derived.Shelf.Small.Utf8
import Derived.Shelf.Small.Strs
import Derived.Test.YtmaagpbjahjmhaaGreatDoorChecked
namespace Go.Proofs.YtmaagpbjahjmhaaGreatDoor
open Go.Shelf
def shl.lays119_ren:Go.Shelf.Ren:=⟨fun|119=>218|n=>n,fun|21=>21|4=>4|n=>n,fun|n=>n⟩
theorem shl.lays119:Go.Proofs.Lays.n119 Tryz.prog shl.lays119_ren:= {
 mixed:=by kernel_rfl
 f119:=Tryz.func218.trans (congrArg some (by kernel_rfl))
 t4:=Tryz.underlying4
 a4:=Tryz.isAgg4
 z4:=Tryz.sizeOf4
 v4:=Tryz.zeroValue4
 t21:=Tryz.underlying21
 a21:=Tryz.isAgg21
 z21:=Tryz.sizeOf21
 v21:=Tryz.zeroValue21 }
theorem shl.utf8_ValidRune (r:Int) (w:World):
  Calls Tryz.prog 218 #[.int .i32 r] w fun e w'=>e= .returned (.bool (Lib.validRune r))∧w'=w:=Any.utf8_ValidRune shl.lays119 r w
end Go.Proofs.YtmaagpbjahjmhaaGreatDoor
