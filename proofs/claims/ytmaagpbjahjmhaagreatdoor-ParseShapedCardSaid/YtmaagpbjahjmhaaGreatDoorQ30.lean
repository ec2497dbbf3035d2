/- Parts: Lo. -/
import Derived.Test.YtmaagpbjahjmhaaGreatDoorProg
import Derived.Shelf.Bytes.SlTrim
set_option maxRecDepth 100000
namespace Go.Proofs.YtmaagpbjahjmhaaGreatDoor
open Go.RowKit
def trR:Go.Shelf.Ren:=⟨fun|6=>156|7=>139|8=>177|9=>189|10=>173|11=>174|12=>190|13=>175|14=>191|15=>176|16=>194|17=>195|18=>205|19=>204|20=>220|21=>228|n=>n,fun|0=>0|1=>1|2=>2|3=>3|4=>4|5=>5|6=>6|7=>7|8=>8|9=>9|10=>10|11=>11|12=>12|13=>13|14=>14|15=>15|16=>16|17=>17|18=>18|19=>19|20=>20|21=>21|22=>22|23=>202|24=>45|25=>224|26=>225|27=>226|28=>227|29=>228|30=>229|31=>230|32=>131|33=>251|34=>252|35=>257|36=>33|37=>161|38=>278|39=>279|40=>280|41=>325|42=>326|43=>327|44=>328|45=>329|46=>330|47=>132|48=>247|49=>331|50=>332|51=>333|52=>334|53=>335|54=>336|55=>337|56=>338|57=>349|n=>n,fun|0=>3|1=>4|n=>n⟩
theorem zQc:SlLaysV.n6 Tryz.prog trR:= {
 mixed:=by kernel_rfl
 f6:=Tryz.func156.trans (congrArg some (by kernel_rfl))
 f9:=Tryz.func189.trans (congrArg some (by kernel_rfl))
 f10:=Tryz.func173.trans (congrArg some (by kernel_rfl))
 f11:=Tryz.func174.trans (congrArg some (by kernel_rfl))
 f12:=Tryz.func190.trans (congrArg some (by kernel_rfl))
 f13:=Tryz.func175.trans (congrArg some (by kernel_rfl))
 f14:=Tryz.func191.trans (congrArg some (by kernel_rfl))
 f15:=Tryz.func176.trans (congrArg some (by kernel_rfl))
 f16:=Tryz.func194.trans (congrArg some (by kernel_rfl))
 f17:=Tryz.func195.trans (congrArg some (by kernel_rfl))
 f18:=Tryz.func205.trans (congrArg some (by kernel_rfl))
 f19:=Tryz.func204.trans (congrArg some (by kernel_rfl))
 f20:=Tryz.func220.trans (congrArg some (by kernel_rfl))
 f21:=Tryz.func228.trans (congrArg some (by kernel_rfl))
 t0:=by kernel_rfl
 a0:=fun _=>by kernel_rfl
 z0:=fun _=>by kernel_rfl
 v0:=fun _=>by kernel_rfl
 t3:=by kernel_rfl
 a3:=fun _=>by kernel_rfl
 z3:=fun _=>by kernel_rfl
 v3:=fun _=>by kernel_rfl
 t4:=by kernel_rfl
 a4:=fun _=>by kernel_rfl
 z4:=fun _=>by kernel_rfl
 v4:=fun _=>by kernel_rfl
 t5:=by kernel_rfl
 a5:=fun _=>by kernel_rfl
 z5:=fun _=>by kernel_rfl
 v5:=fun _=>by kernel_rfl
 t9:=by kernel_rfl
 a9:=fun _=>by kernel_rfl
 z9:=fun _=>by kernel_rfl
 v9:=fun _=>by kernel_rfl
 t21:=by kernel_rfl
 a21:=fun _=>by kernel_rfl
 z21:=fun _=>by kernel_rfl
 v21:=fun _=>by kernel_rfl
 t22:=by kernel_rfl
 a22:=fun _=>by kernel_rfl
 z22:=fun _=>by kernel_rfl
 v22:=fun _=>by kernel_rfl
 t27:=by kernel_rfl
 a27:=fun _=>by kernel_rfl
 z27:=fun _=>by kernel_rfl
 t28:=by kernel_rfl
 a28:=fun _=>by kernel_rfl
 z28:=fun _=>by kernel_rfl
 v28:=fun _=>by kernel_rfl
 t31:=by kernel_rfl
 a31:=fun _=>by kernel_rfl
 z31:=fun _=>by kernel_rfl
 v31:=fun _=>by kernel_rfl
 t33:=by kernel_rfl
 a33:=fun _=>by kernel_rfl
 z33:=fun _=>by kernel_rfl
 v33:=fun _=>by kernel_rfl
 t36:=by kernel_rfl
 a36:=fun _=>by kernel_rfl
 z36:=fun _=>by kernel_rfl
 t37:=by kernel_rfl
 a37:=fun _=>by kernel_rfl
 z37:=fun _=>by kernel_rfl
 v37:=fun _=>by kernel_rfl
 t39:=by kernel_rfl
 a39:=fun _=>by kernel_rfl
 z39:=fun _=>by kernel_rfl
 v39:=fun _=>by kernel_rfl
 t40:=by kernel_rfl
 a40:=fun _=>by kernel_rfl
 z40:=fun _=>by kernel_rfl
 v40:=fun _=>by kernel_rfl }
theorem zQA:SlLaysV.n7 Tryz.prog trR:= {
 mixed:=by kernel_rfl
 f7:=Tryz.func139.trans (congrArg some (by kernel_rfl))
 f10:=Tryz.func173.trans (congrArg some (by kernel_rfl))
 f11:=Tryz.func174.trans (congrArg some (by kernel_rfl))
 f13:=Tryz.func175.trans (congrArg some (by kernel_rfl))
 f15:=Tryz.func176.trans (congrArg some (by kernel_rfl))
 f16:=Tryz.func194.trans (congrArg some (by kernel_rfl))
 f17:=Tryz.func195.trans (congrArg some (by kernel_rfl))
 f18:=Tryz.func205.trans (congrArg some (by kernel_rfl))
 f19:=Tryz.func204.trans (congrArg some (by kernel_rfl))
 f20:=Tryz.func220.trans (congrArg some (by kernel_rfl))
 f21:=Tryz.func228.trans (congrArg some (by kernel_rfl))
 t0:=by kernel_rfl
 a0:=fun _=>by kernel_rfl
 z0:=fun _=>by kernel_rfl
 v0:=fun _=>by kernel_rfl
 t3:=by kernel_rfl
 a3:=fun _=>by kernel_rfl
 z3:=fun _=>by kernel_rfl
 v3:=fun _=>by kernel_rfl
 t4:=by kernel_rfl
 a4:=fun _=>by kernel_rfl
 z4:=fun _=>by kernel_rfl
 v4:=fun _=>by kernel_rfl
 t5:=by kernel_rfl
 a5:=fun _=>by kernel_rfl
 z5:=fun _=>by kernel_rfl
 v5:=fun _=>by kernel_rfl
 t9:=by kernel_rfl
 a9:=fun _=>by kernel_rfl
 z9:=fun _=>by kernel_rfl
 v9:=fun _=>by kernel_rfl
 t21:=by kernel_rfl
 a21:=fun _=>by kernel_rfl
 z21:=fun _=>by kernel_rfl
 v21:=fun _=>by kernel_rfl
 t22:=by kernel_rfl
 a22:=fun _=>by kernel_rfl
 z22:=fun _=>by kernel_rfl
 v22:=fun _=>by kernel_rfl
 t27:=by kernel_rfl
 a27:=fun _=>by kernel_rfl
 z27:=fun _=>by kernel_rfl
 t28:=by kernel_rfl
 a28:=fun _=>by kernel_rfl
 z28:=fun _=>by kernel_rfl
 v28:=fun _=>by kernel_rfl
 t31:=by kernel_rfl
 a31:=fun _=>by kernel_rfl
 z31:=fun _=>by kernel_rfl
 v31:=fun _=>by kernel_rfl
 t33:=by kernel_rfl
 a33:=fun _=>by kernel_rfl
 z33:=fun _=>by kernel_rfl
 v33:=fun _=>by kernel_rfl
 t36:=by kernel_rfl
 a36:=fun _=>by kernel_rfl
 z36:=fun _=>by kernel_rfl
 t37:=by kernel_rfl
 a37:=fun _=>by kernel_rfl
 z37:=fun _=>by kernel_rfl
 v37:=fun _=>by kernel_rfl
 t39:=by kernel_rfl
 a39:=fun _=>by kernel_rfl
 z39:=fun _=>by kernel_rfl
 v39:=fun _=>by kernel_rfl
 t40:=by kernel_rfl
 a40:=fun _=>by kernel_rfl
 z40:=fun _=>by kernel_rfl
 v40:=fun _=>by kernel_rfl }
theorem zQb:SlLaysV.n8 Tryz.prog trR:= {
 mixed:=by kernel_rfl
 f8:=Tryz.func177.trans (congrArg some (by kernel_rfl))
 f9:=Tryz.func189.trans (congrArg some (by kernel_rfl))
 f11:=Tryz.func174.trans (congrArg some (by kernel_rfl))
 f12:=Tryz.func190.trans (congrArg some (by kernel_rfl))
 f14:=Tryz.func191.trans (congrArg some (by kernel_rfl))
 f16:=Tryz.func194.trans (congrArg some (by kernel_rfl))
 f17:=Tryz.func195.trans (congrArg some (by kernel_rfl))
 f18:=Tryz.func205.trans (congrArg some (by kernel_rfl))
 f20:=Tryz.func220.trans (congrArg some (by kernel_rfl))
 t0:=by kernel_rfl
 a0:=fun _=>by kernel_rfl
 z0:=fun _=>by kernel_rfl
 v0:=fun _=>by kernel_rfl
 t3:=by kernel_rfl
 a3:=fun _=>by kernel_rfl
 z3:=fun _=>by kernel_rfl
 v3:=fun _=>by kernel_rfl
 t4:=by kernel_rfl
 a4:=fun _=>by kernel_rfl
 z4:=fun _=>by kernel_rfl
 v4:=fun _=>by kernel_rfl
 t5:=by kernel_rfl
 a5:=fun _=>by kernel_rfl
 z5:=fun _=>by kernel_rfl
 v5:=fun _=>by kernel_rfl
 t9:=by kernel_rfl
 a9:=fun _=>by kernel_rfl
 z9:=fun _=>by kernel_rfl
 v9:=fun _=>by kernel_rfl
 t21:=by kernel_rfl
 a21:=fun _=>by kernel_rfl
 z21:=fun _=>by kernel_rfl
 v21:=fun _=>by kernel_rfl
 t22:=by kernel_rfl
 a22:=fun _=>by kernel_rfl
 z22:=fun _=>by kernel_rfl
 v22:=fun _=>by kernel_rfl
 t27:=by kernel_rfl
 a27:=fun _=>by kernel_rfl
 z27:=fun _=>by kernel_rfl
 t28:=by kernel_rfl
 a28:=fun _=>by kernel_rfl
 z28:=fun _=>by kernel_rfl
 v28:=fun _=>by kernel_rfl
 t31:=by kernel_rfl
 a31:=fun _=>by kernel_rfl
 z31:=fun _=>by kernel_rfl
 v31:=fun _=>by kernel_rfl
 t33:=by kernel_rfl
 a33:=fun _=>by kernel_rfl
 z33:=fun _=>by kernel_rfl
 v33:=fun _=>by kernel_rfl
 t36:=by kernel_rfl
 a36:=fun _=>by kernel_rfl
 z36:=fun _=>by kernel_rfl
 t37:=by kernel_rfl
 a37:=fun _=>by kernel_rfl
 z37:=fun _=>by kernel_rfl
 v37:=fun _=>by kernel_rfl
 t39:=by kernel_rfl
 a39:=fun _=>by kernel_rfl
 z39:=fun _=>by kernel_rfl
 v39:=fun _=>by kernel_rfl
 t40:=by kernel_rfl
 a40:=fun _=>by kernel_rfl
 z40:=fun _=>by kernel_rfl
 v40:=fun _=>by kernel_rfl }
end Go.Proofs.YtmaagpbjahjmhaaGreatDoor
