/- Parts: Lj. -/
import Derived.Test.YtfjbnpdffillbaaGreatDoorQ17
import Derived.Test.YtfjbnpdffillbaaGreatDoorQ18
import Derived.Test.YtfjbnpdffillbaaGreatDoorQ19
namespace Go.Proofs.YtfjbnpdffillbaaGreatDoor
open Go.RowKit
theorem zLW {w:World} (k:Nat) (os:Array Obj):Below w.heap.size w (Go.Sort.grow (w.drewN k) os):=
 ⟨rfl,rfl,rfl,by show w.heap.size≤(w.heap++os).size;rw[Array.size_append];omega,fun j hj=>by show(w.heap++os)[j]?=_;rw[Array.getElem?_append_left hj]⟩
def zGz (w:World):Prop:=Lib.TabIs Tryz.prog w "internal/strconv.uint64pow10" .u64 Lib.pow10Tab
theorem zGz.below {w w':World} (h:zGz w) (hb:Below w.heap.size w w'):zGz w':=by
 unfold zGz Lib.TabIs World.var? at h ⊢
 generalize Tryz.prog.globalNamed "internal/strconv.uint64pow10" =og at h ⊢
 cases og with
 |none=>simp at h
 |some g=>
  simp only[Option.bind_some]at h ⊢
  have hlt:g<w.heap.size:=by
   by_cases hlt:g<w.heap.size
   ·exact hlt
   ·rw[Array.getElem?_eq_none (by omega)]at h;cases h
  rw[hb.block g hlt]
  exact h
theorem zEy {n:Int} (h0: -9223372036854775808≤n) (h1:n≤9223372036854775807) {w:World} (ht:zGz w):
  Calls Tryz.prog 84 #[.int .i64 n] w fun e w'=>e= .returned (.string ⟨(Lib.itoa n).toArray⟩)∧Below w.heap.size w w':=
 (shl.strconv_Itoa n h0 h1 w ht).mono fun _ _ ⟨he,k,os,hw⟩=>⟨he,hw▸zLW k os⟩
theorem zD6 (n:Int):zAW ⟨(Lib.itoa n).toArray⟩=zHZ n:=by
 unfold zAW zHZ Lib.itoa zMt
 split<;>simp
theorem zDE (a b:ByteArray):zAW (a++b)=zAW a++zAW b:=by
 unfold zAW
 simp
end Go.Proofs.YtfjbnpdffillbaaGreatDoor
