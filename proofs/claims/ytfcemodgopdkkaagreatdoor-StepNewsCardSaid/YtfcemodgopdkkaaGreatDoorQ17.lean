/- Parts: Lo. -/
import Derived.Test.YtfcemodgopdkkaaGreatDoorProg
import Derived.Shelf.Bytes.SlTrim
set_option maxRecDepth 100000
namespace Go.Proofs.YtfcemodgopdkkaaGreatDoor
open Go.RowKit
def trR:Go.Shelf.Ren:=⟨fun|6=>178|9=>209|10=>210|11=>211|12=>212|13=>213|14=>214|15=>215|16=>218|17=>219|18=>240|19=>241|20=>244|21=>265|n=>n,fun|0=>0|1=>1|2=>2|3=>3|4=>4|5=>5|6=>6|7=>7|8=>8|9=>9|10=>10|11=>11|12=>12|13=>13|14=>14|15=>15|16=>16|17=>17|18=>18|19=>19|20=>20|21=>21|22=>46|23=>251|24=>165|25=>225|26=>273|27=>274|28=>275|29=>276|30=>277|31=>278|32=>280|33=>281|34=>282|35=>317|36=>68|37=>256|38=>336|39=>337|40=>338|41=>349|42=>350|43=>351|44=>352|45=>353|46=>354|47=>56|48=>314|49=>355|50=>356|51=>357|52=>358|53=>359|54=>360|55=>361|56=>362|57=>426|n=>n,fun|0=>4|1=>5|n=>n⟩
theorem zLK:SlLaysV.n6 Tryz.prog trR:= {
 mixed:=by kernel_rfl
 f6:=Tryz.func178.trans (congrArg some (by kernel_rfl))
 f9:=Tryz.func209.trans (congrArg some (by kernel_rfl))
 f10:=Tryz.func210.trans (congrArg some (by kernel_rfl))
 f11:=Tryz.func211.trans (congrArg some (by kernel_rfl))
 f12:=Tryz.func212.trans (congrArg some (by kernel_rfl))
 f13:=Tryz.func213.trans (congrArg some (by kernel_rfl))
 f14:=Tryz.func214.trans (congrArg some (by kernel_rfl))
 f15:=Tryz.func215.trans (congrArg some (by kernel_rfl))
 f16:=Tryz.func218.trans (congrArg some (by kernel_rfl))
 f17:=Tryz.func219.trans (congrArg some (by kernel_rfl))
 f18:=Tryz.func240.trans (congrArg some (by kernel_rfl))
 f19:=Tryz.func241.trans (congrArg some (by kernel_rfl))
 f20:=Tryz.func244.trans (congrArg some (by kernel_rfl))
 f21:=Tryz.func265.trans (congrArg some (by kernel_rfl))
 t0:=by kernel_rfl
 a0:=fun _=>by kernel_rfl
 z0:=fun _=>by kernel_rfl
 v0:=fun _=>by kernel_rfl
 t3:=by kernel_rfl
 a3:=fun _=>by kernel_rfl
 z3:=fun _=>by kernel_rfl
 v3:=fun _=>by kernel_rfl
 t4:=by kernel_rfl
 a4:=fun _=>by kernel_rfl
 z4:=fun _=>by kernel_rfl
 v4:=fun _=>by kernel_rfl
 t5:=by kernel_rfl
 a5:=fun _=>by kernel_rfl
 z5:=fun _=>by kernel_rfl
 v5:=fun _=>by kernel_rfl
 t9:=by kernel_rfl
 a9:=fun _=>by kernel_rfl
 z9:=fun _=>by kernel_rfl
 v9:=fun _=>by kernel_rfl
 t21:=by kernel_rfl
 a21:=fun _=>by kernel_rfl
 z21:=fun _=>by kernel_rfl
 v21:=fun _=>by kernel_rfl
 t22:=by kernel_rfl
 a22:=fun _=>by kernel_rfl
 z22:=fun _=>by kernel_rfl
 v22:=fun _=>by kernel_rfl
 t27:=by kernel_rfl
 a27:=fun _=>by kernel_rfl
 z27:=fun _=>by kernel_rfl
 t28:=by kernel_rfl
 a28:=fun _=>by kernel_rfl
 z28:=fun _=>by kernel_rfl
 v28:=fun _=>by kernel_rfl
 t31:=by kernel_rfl
 a31:=fun _=>by kernel_rfl
 z31:=fun _=>by kernel_rfl
 v31:=fun _=>by kernel_rfl
 t33:=by kernel_rfl
 a33:=fun _=>by kernel_rfl
 z33:=fun _=>by kernel_rfl
 v33:=fun _=>by kernel_rfl
 t36:=by kernel_rfl
 a36:=fun _=>by kernel_rfl
 z36:=fun _=>by kernel_rfl
 t37:=by kernel_rfl
 a37:=fun _=>by kernel_rfl
 z37:=fun _=>by kernel_rfl
 v37:=fun _=>by kernel_rfl
 t39:=by kernel_rfl
 a39:=fun _=>by kernel_rfl
 z39:=fun _=>by kernel_rfl
 v39:=fun _=>by kernel_rfl
 t40:=by kernel_rfl
 a40:=fun _=>by kernel_rfl
 z40:=fun _=>by kernel_rfl
 v40:=fun _=>by kernel_rfl }
end Go.Proofs.YtfcemodgopdkkaaGreatDoor
