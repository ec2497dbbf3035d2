/- Parts: Fg Fi Fl. -/
import Derived.Test.YtfcemodgopdkkaaGreatDoorQ3
import Derived.Test.YtfcemodgopdkkaaGreatDoorQ1
import Derived.Test.YtfcemodgopdkkaaGreatDoorQ7
import Derived.Test.YtfcemodgopdkkaaGreatDoorQ6
import Derived.Test.YtfcemodgopdkkaaGreatDoorQ8
import Derived.Shelf.Bytes.SlClone
import Derived.OneCell
namespace Go.Proofs.YtfcemodgopdkkaaGreatDoor
section
open Go.RowKit Go.Shelf
def zLY:Go.Shelf.Ren:=⟨fun|4=>94|n=>n,fun|4=>4|22=>46|5=>5|n=>n,fun|n=>n⟩
theorem zIt:SlLaysK.n4 Tryz.prog zLY:= {
 mixed:=by kernel_rfl
 f4:=Tryz.func94.trans (congrArg some (by kernel_rfl))
 t4:=Tryz.underlying4
 a4:=Tryz.isAgg4
 z4:=Tryz.sizeOf4
 v4:=Tryz.zeroValue4
 t22:=Tryz.underlying46
 a22:=Tryz.isAgg46
 z22:=Tryz.sizeOf46
 v22:=Tryz.zeroValue46
 t5:=Tryz.underlying5
 i5:=by kernel_rfl }
def zBU (w:World) (oa:Option Addr) (T:List Nat):Prop:=0<T.length→ ∃g o,oa=some ⟨g,o,none⟩∧ ∀j,j<T.length→w.cell? ⟨g,o+j,none⟩=some (.int .u8 (T.getD j 0:Nat))
theorem zAq (g o i:Nat):(⟨g,o,none⟩:Addr).add i=⟨g,o+i,none⟩:=by unfold Addr.add;split<;>simp_all
theorem zBT {w:World} {oa:Option Addr} {cap:Nat} {T:List Nat} (h:zBU w oa T) (hl:T.length≤4294967296) (hs: ∀g o s,oa≠some ⟨g,o,some s⟩):
  Calls Tryz.prog 94 #[.slice oa T.length cap] w fun e w'=> ∃v,e= .returned v∧w'.ownsRow w.heap.size 5 1 v T.length (u8s T)∧Below w.heap.size w w':=by
 cases oa with
 |none=>
  have h0:T=[]:=by
   rcases T with _|⟨x,l⟩
   ·rfl
   ·obtain⟨g,o,h1,_⟩:=h (by simp)
    cases h1
  subst h0
  refine(Any.bytes_Clone_nil zIt _ _ w).mono ?_
  rintro e w' ⟨rfl,rfl⟩
  exact⟨_,rfl,zMO _ _ _ _,zL9 _ _⟩
 |some a=>
  refine(Any.bytes_Clone_at zIt a T.length cap (T.map fun b:Nat=>(b:Int)) w (by simp) (by omega) ?_).mono ?_
  ·intro i hi
   obtain⟨g,o,h1,h2⟩:=h (by omega)
   injection h1 with h1
   subst h1
   rw[zAq,h2 i hi]
   simp[List.getD_eq_getElem?_getD,hi]
  ·rintro e w' ⟨v,rfl,h1,_,h3⟩
   have h1':w'.ownsRow w.heap.size 5 1 v T.length ((T.map fun b:Nat=>(b:Int)).map (Value.int .u8)):=h1
   rw[List.map_map]at h1'
   exact⟨v,rfl,h1',h3⟩
section
variable {w:World} {wb:Nat} {oa:Option Addr} {cap:Nat} {T:List Nat} {i:Nat}
end
end
section
open Go.RowKit
section
variable {w:World} {wb bm most v:Nat} {oa:Option Addr} {cap:Nat} {T:List Nat} {i:Nat} {h:Bool}
theorem zIT {w:World} {p:Addr} {x:Value} (h:w.cell? p=some x) (o:Obj):(w.alloc o).cell? p=some x:=Lib.cell?_alloc_some _ h
end
end
section
open Go.RowKit
section
variable {w w':World} {b:Nat} {k n v:Value}
theorem Nds.form {w:World} {base:Nat} {v:Value} {L:List Nd} (h:Nds w base v L): ∃o c,v= .slice o L.length c:=by
 rcases h.2 with ⟨h1,h2⟩|⟨g,cp,_,h1,_⟩
 ·exact⟨none,0,by rw[h1,h2]⟩
 ·exact⟨_,_,h1⟩
end
section
variable {w:World} {wb:Nat} {oa:Option Addr} {cap:Nat} {T:List Nat} {i:Nat}
end
end
end Go.Proofs.YtfcemodgopdkkaaGreatDoor
