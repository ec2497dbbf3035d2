/- Parts: Lq. -/
import Derived.Lib.Hide
import Derived.Test.YtmaagpbjahjmhaaGreatDoorProg
import Derived.Shelf.Spec.DecodeRune
set_option maxRecDepth 100000
namespace Go.Proofs.YtmaagpbjahjmhaaGreatDoor
section
open Go.RowKit
abbrev zQk:=@Lib.hid
abbrev zQl:=@Below.refl
abbrev zQm:=@Nat.le_refl
abbrev zQn:=@Nat.lt_of_lt_of_le
abbrev zQo:=@World.cell?_of_block
abbrev zQp:=@World.frozen?_of_block
abbrev zQq:=@beq_eq_false_iff_ne
abbrev zQr:=@List.getElem?_eq_some_iff
abbrev zQs:=@Array.getElem?_eq_some_iff
abbrev zQt:=@List.getD_eq_getElem?_getD
abbrev zQu:=@Below.heap_setCell
abbrev zQv:=@decide_eq_true
abbrev zQw:=@decide_eq_false
abbrev zQx:=@heap_alloc_new
abbrev zQy:=@heap_alloc_old
abbrev zQz:=@cell_of_row
abbrev zQ0:=@World.ownsRow_nil
abbrev zQ1:=@List.getElem?_eq_getElem
abbrev zQ2:=@World.cell?_setCell_other
abbrev zQ3:=@World.cell?_setCell_same
abbrev zQ4:=@List.length_append
abbrev zQ5:=@List.getElem?_append_left
abbrev zQ6:=@List.getElem?_append_right
abbrev zQ7:=@Nat.le_trans
abbrev zQ8:=@World.ownsRow.stored
abbrev zQ9:=@World.ownsRow.cellAt
abbrev zRA:=@World.ownsRow.frozenAt
abbrev zRB:=@Below.alloc
abbrev zRC:=@Below.setCell
abbrev zRD:=@Below.drew
abbrev zRE:=@List.mem_of_getElem?
abbrev zRF:=@List.mem_append
abbrev zRG:=@Option.some.inj
abbrev zRH:=@World.block_lt_of_cell?
abbrev zRI:=@List.eq_nil_of_length_eq_zero
abbrev zRJ:=@bodyPost_ret
abbrev zRK:=@List.getElem?_eq_none
end
open Go.RowKit
def deR:Go.Shelf.Ren:=⟨fun|32=>195|49=>220|n=>n,fun|0=>0|3=>3|4=>4|5=>5|21=>21|25=>161|30=>22|33=>251|66=>33|68=>279|69=>280|n=>n,fun|2=>3|3=>4|n=>n⟩
theorem zQK:Lays7.n32 Tryz.prog deR:= {
 mixed:=by kernel_rfl
 f32:=Tryz.func195.trans (congrArg some (by kernel_rfl))
 f49:=Tryz.func220.trans (congrArg some (by kernel_rfl))
 t0:=by kernel_rfl
 a0:=fun _=>by kernel_rfl
 z0:=fun _=>by kernel_rfl
 v0:=fun _=>by kernel_rfl
 i0:=by kernel_rfl
 t3:=by kernel_rfl
 a3:=fun _=>by kernel_rfl
 z3:=fun _=>by kernel_rfl
 v3:=fun _=>by kernel_rfl
 i3:=by kernel_rfl
 t4:=by kernel_rfl
 a4:=fun _=>by kernel_rfl
 z4:=fun _=>by kernel_rfl
 v4:=fun _=>by kernel_rfl
 i4:=by kernel_rfl
 t5:=by kernel_rfl
 a5:=fun _=>by kernel_rfl
 z5:=fun _=>by kernel_rfl
 v5:=fun _=>by kernel_rfl
 i5:=by kernel_rfl
 t21:=by kernel_rfl
 a21:=fun _=>by kernel_rfl
 z21:=fun _=>by kernel_rfl
 v21:=fun _=>by kernel_rfl
 i21:=by kernel_rfl
 t25:=by kernel_rfl
 a25:=fun _=>by kernel_rfl
 z25:=fun _=>by kernel_rfl
 v25:=fun _=>by kernel_rfl
 i25:=by kernel_rfl
 t30:=by kernel_rfl
 a30:=fun _=>by kernel_rfl
 z30:=fun _=>by kernel_rfl
 v30:=fun _=>by kernel_rfl
 i30:=by kernel_rfl
 t33:=by kernel_rfl
 a33:=fun _=>by kernel_rfl
 z33:=fun _=>by kernel_rfl
 v33:=fun _=>by kernel_rfl
 i33:=by kernel_rfl
 t66:=by kernel_rfl
 a66:=fun _=>by kernel_rfl
 z66:=fun _=>by kernel_rfl
 t68:=by kernel_rfl
 a68:=fun _=>by kernel_rfl
 z68:=fun _=>by kernel_rfl
 v68:=fun _=>by kernel_rfl
 i68:=by kernel_rfl
 t69:=by kernel_rfl
 a69:=fun _=>by kernel_rfl
 z69:=fun _=>by kernel_rfl
 v69:=fun _=>by kernel_rfl
 i69:=by kernel_rfl
 g2:=by kernel_rfl
 g3:=by kernel_rfl }
end Go.Proofs.YtmaagpbjahjmhaaGreatDoor
