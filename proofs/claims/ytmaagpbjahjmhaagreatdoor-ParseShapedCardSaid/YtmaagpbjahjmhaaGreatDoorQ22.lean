/- Parts: Lk Fsa. -/
import Derived.Test.YtmaagpbjahjmhaaGreatDoorQ20
import Derived.Shelf.Small.Utf8
import Derived.Shelf.Small.Strs
import Derived.Shelf.Strings.Search1
import Derived.Shelf.Strings.Runes
import Derived.Test.YtmaagpbjahjmhaaGreatDoorChecked
namespace Go.Proofs.YtmaagpbjahjmhaaGreatDoor
section
open Go.Shelf
def shl.lays152_ren:Go.Shelf.Ren:=⟨fun|152=>216|137=>55|119=>218|224=>153|225=>196|217=>119|266=>163|n=>n,fun|9=>9|21=>21|3=>3|4=>4|5=>5|0=>0|46=>161|n=>n,fun|n=>n⟩
theorem shl.lays152:Go.Proofs.Lays.n152 Tryz.prog shl.lays152_ren:= {
 mixed:=by kernel_rfl
 f119:=Tryz.func218.trans (congrArg some (by kernel_rfl))
 f137:=Tryz.func55.trans (congrArg some (by kernel_rfl))
 f152:=Tryz.func216.trans (congrArg some (by kernel_rfl))
 f217:=Tryz.func119.trans (congrArg some (by kernel_rfl))
 f224:=Tryz.func153.trans (congrArg some (by kernel_rfl))
 f225:=Tryz.func196.trans (congrArg some (by kernel_rfl))
 f266:=Tryz.func163.trans (congrArg some (by kernel_rfl))
 t0:=Tryz.underlying0
 a0:=Tryz.isAgg0
 z0:=Tryz.sizeOf0
 v0:=Tryz.zeroValue0
 t3:=Tryz.underlying3
 a3:=Tryz.isAgg3
 z3:=Tryz.sizeOf3
 v3:=Tryz.zeroValue3
 t4:=Tryz.underlying4
 a4:=Tryz.isAgg4
 z4:=Tryz.sizeOf4
 v4:=Tryz.zeroValue4
 t5:=Tryz.underlying5
 a5:=Tryz.isAgg5
 z5:=Tryz.sizeOf5
 v5:=Tryz.zeroValue5
 t9:=Tryz.underlying9
 a9:=Tryz.isAgg9
 z9:=Tryz.sizeOf9
 v9:=Tryz.zeroValue9
 t21:=Tryz.underlying21
 a21:=Tryz.isAgg21
 z21:=Tryz.sizeOf21
 v21:=Tryz.zeroValue21
 t46:=Tryz.underlying161
 a46:=Tryz.isAgg161
 z46:=Tryz.sizeOf161
 v46:=Tryz.zeroValue161 }
open Go.RowKit Go.Lib in
theorem shl.strings_IndexRune_ascii (s:ByteArray) (r:Int) (w:World) (h0:0≤r) (h1:r<128):
  Calls Tryz.prog 216 #[.string s,.int .i32 r] w fun e w'=>e= .returned (.int .i64 (Lib.indexByte s.data.toList r.toNat.toUInt8))∧w'=w:=Any.strings_IndexRune_ascii shl.lays152 s r w h0 h1
end
section
open Go.RowKit
theorem zOs: ∀c,c<128→Lib.indexByte zP1.data.toList (((c:Nat):Int).toNat.toUInt8)=zOa c:=by decide+kernel
theorem zNS {c:Nat} (h:c<128):zPQ c:=fun w=>by
 refine(shl.strings_IndexRune_ascii zP1 c w (by omega) (by omega)).mono ?_
 rintro e w' ⟨rfl,rfl⟩
 exact⟨by rw[zOs c h],zQs _ _⟩
end
end Go.Proofs.YtmaagpbjahjmhaaGreatDoor
