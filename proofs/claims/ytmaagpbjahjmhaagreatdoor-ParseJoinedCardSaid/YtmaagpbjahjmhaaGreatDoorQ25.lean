/- Parts: Fsa. -/
import Derived.Test.YtmaagpbjahjmhaaGreatDoorQ24
import Derived.Test.YtmaagpbjahjmhaaGreatDoorQ22
namespace Go.Proofs.YtmaagpbjahjmhaaGreatDoor
open Go.RowKit
theorem zO8: ∀c,c<128→Lib.indexByte zP9.data.toList (((c:Nat):Int).toNat.toUInt8)=zOq c:=by decide+kernel
theorem zNf {c:Nat} (h:c<128):zPg c:=fun w=>by
 refine(shl.strings_IndexRune_ascii zP9 c w (by omega) (by omega)).mono ?_
 rintro e w' ⟨rfl,rfl⟩
 exact⟨by rw[zO8 c h],Below.refl _ _⟩
end Go.Proofs.YtmaagpbjahjmhaaGreatDoor
