/- Parts: Lp. -/
import Derived.Test.YtfcemodgopdkkaaGreatDoorProg
import Derived.Shelf.Bytes.IndexByte
set_option maxRecDepth 100000
namespace Go.Proofs.YtfcemodgopdkkaaGreatDoor
open Go.RowKit
def ibR:Go.Shelf.Ren:=⟨fun|187=>177|255=>208|n=>n,fun|3=>3|5=>5|37=>46|n=>n,fun|n=>n⟩
theorem ibn:Lays.n187 Tryz.prog ibR:= {
 mixed:=by kernel_rfl
 f187:=Tryz.func177.trans (congrArg some (by kernel_rfl))
 f255:=Tryz.func208.trans (congrArg some (by kernel_rfl))
 t3:=by kernel_rfl
 a3:=fun _=>by kernel_rfl
 z3:=fun _=>by kernel_rfl
 v3:=fun _=>by kernel_rfl
 t5:=by kernel_rfl
 a5:=fun _=>by kernel_rfl
 z5:=fun _=>by kernel_rfl
 v5:=fun _=>by kernel_rfl
 t37:=by kernel_rfl
 a37:=fun _=>by kernel_rfl
 z37:=fun _=>by kernel_rfl
 v37:=fun _=>by kernel_rfl }
end Go.Proofs.YtfcemodgopdkkaaGreatDoor
