/- Parts: Lp Lr. -/
import Derived.Test.YtmaagpbjahjmhaaGreatDoorProg
import Derived.Shelf.Bytes.IndexByte
import Derived.Shelf.Bytes.SlCut
set_option maxRecDepth 100000
namespace Go.Proofs.YtmaagpbjahjmhaaGreatDoor
section
open Go.RowKit
def ibR:Go.Shelf.Ren:=⟨fun|187=>150|255=>187|n=>n,fun|3=>3|5=>5|37=>22|n=>n,fun|n=>n⟩
theorem ibn:Lays.n187 Tryz.prog ibR:= {
 mixed:=by kernel_rfl
 f187:=Tryz.func150.trans (congrArg some (by kernel_rfl))
 f255:=Tryz.func187.trans (congrArg some (by kernel_rfl))
 t3:=by kernel_rfl
 a3:=fun _=>by kernel_rfl
 z3:=fun _=>by kernel_rfl
 v3:=fun _=>by kernel_rfl
 t5:=by kernel_rfl
 a5:=fun _=>by kernel_rfl
 z5:=fun _=>by kernel_rfl
 v5:=fun _=>by kernel_rfl
 t37:=by kernel_rfl
 a37:=fun _=>by kernel_rfl
 z37:=fun _=>by kernel_rfl
 v37:=fun _=>by kernel_rfl }
end
section
open Go.RowKit
def cuR:Go.Shelf.Ren:=⟨fun|4=>36|5=>104|6=>150|7=>151|8=>152|9=>153|10=>154|11=>187|12=>188|n=>n,fun|0=>0|3=>3|4=>4|5=>5|9=>9|22=>22|29=>161|30=>247|31=>248|n=>n,fun|0=>2|n=>n⟩
theorem zQm:SlLaysT.n4 Tryz.prog cuR:= {
 mixed:=by kernel_rfl
 f4:=Tryz.func36.trans (congrArg some (by kernel_rfl))
 f5:=Tryz.func104.trans (congrArg some (by kernel_rfl))
 f6:=Tryz.func150.trans (congrArg some (by kernel_rfl))
 f7:=Tryz.func151.trans (congrArg some (by kernel_rfl))
 f8:=Tryz.func152.trans (congrArg some (by kernel_rfl))
 f9:=Tryz.func153.trans (congrArg some (by kernel_rfl))
 f10:=Tryz.func154.trans (congrArg some (by kernel_rfl))
 f11:=Tryz.func187.trans (congrArg some (by kernel_rfl))
 f12:=Tryz.func188.trans (congrArg some (by kernel_rfl))
 t0:=by kernel_rfl
 a0:=fun _=>by kernel_rfl
 z0:=fun _=>by kernel_rfl
 v0:=fun _=>by kernel_rfl
 t3:=by kernel_rfl
 a3:=fun _=>by kernel_rfl
 z3:=fun _=>by kernel_rfl
 v3:=fun _=>by kernel_rfl
 t4:=by kernel_rfl
 a4:=fun _=>by kernel_rfl
 z4:=fun _=>by kernel_rfl
 v4:=fun _=>by kernel_rfl
 t5:=by kernel_rfl
 a5:=fun _=>by kernel_rfl
 z5:=fun _=>by kernel_rfl
 v5:=fun _=>by kernel_rfl
 t9:=by kernel_rfl
 a9:=fun _=>by kernel_rfl
 z9:=fun _=>by kernel_rfl
 v9:=fun _=>by kernel_rfl
 t22:=by kernel_rfl
 a22:=fun _=>by kernel_rfl
 z22:=fun _=>by kernel_rfl
 v22:=fun _=>by kernel_rfl
 t29:=by kernel_rfl
 a29:=fun _=>by kernel_rfl
 z29:=fun _=>by kernel_rfl
 v29:=fun _=>by kernel_rfl
 t30:=by kernel_rfl
 a30:=fun _=>by kernel_rfl
 z30:=fun _=>by kernel_rfl
 v30:=fun _=>by kernel_rfl
 t31:=by kernel_rfl
 a31:=fun _=>by kernel_rfl
 z31:=fun _=>by kernel_rfl
 v31:=fun _=>by kernel_rfl
 g0:=by kernel_rfl }
end
end Go.Proofs.YtmaagpbjahjmhaaGreatDoor
