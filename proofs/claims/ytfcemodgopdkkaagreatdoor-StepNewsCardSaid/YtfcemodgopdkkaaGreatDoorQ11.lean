/- Parts: Fua Vj Vm Vn. -/
import Derived.Test.YtfcemodgopdkkaaGreatDoorQ2
import Derived.Test.YtfcemodgopdkkaaGreatDoorQ13
import Derived.Test.YtfcemodgopdkkaaGreatDoorQ3
import Derived.Test.YtfcemodgopdkkaaGreatDoorQ1
import Derived.Test.YtfcemodgopdkkaaGreatDoorQ6
import Derived.Test.YtfcemodgopdkkaaGreatDoorQ9
import Derived.Test.YtfcemodgopdkkaaGreatDoorQ16
import Derived.Deep.WholeRow
import Derived.Shelf.Unicode.DecodeSlow
import Derived.Shelf.Small.Utf8
import Derived.Shelf.Small.Strs
import Derived.Test.YtfcemodgopdkkaaGreatDoorChecked
import Derived.OneCell
import Derived.WalkMore
import Derived.LoopN
import Derived.Shelf.Strings.Search1
import Derived.Shelf.Strings.Runes
import Derived.Deep.DeepCutAuto
set_option maxHeartbeats 800000
set_option maxRecDepth 100000
namespace Go.Proofs.YtfcemodgopdkkaaGreatDoor
section
open Go.RowKit
theorem zAo:Tryz.zeroCells71.toList.length=272:=by kernel_rfl
theorem zKP: ∀v∈Tryz.zeroCells71.toList,v.oneCell'=true:=by
 have h:Tryz.zeroCells71.toList.all (·.oneCell')=true:=by kernel_rfl
 exact List.all_eq_true.1 h
theorem zAd:(Tryz.prog.info? 71).map (·.size)=some 272:=by kernel_rfl
structure zBc (l:List Value):Prop where
 len:l.length=272
 one: ∀v∈l,v.oneCell'=true
theorem zBc.zero:zBc Tryz.zeroCells71.toList:=⟨zAo,zKP⟩
theorem zBc.set {l:List Value} (h:zBc l) (i:Nat) {v:Value} (hv:v.oneCell'=true):zBc (l.set i v):=
 ⟨by rw[List.length_set];exact h.len,fun x hx=>(List.mem_or_eq_of_mem_set hx).elim (h.one x) (fun e=>e▸hv)⟩
theorem zBc.store {l:List Value} (h:zBc l) (w:World):(storeCells ⟨w.heap.size,0,none⟩ l 0).run Tryz.prog (w.alloc (.cells Tryz.zeroCells71 71))= .ok () (w.alloc (.cells l.toArray 71)):=by
 have:=run_storeCells_new (P:=Tryz.prog) w 71 Tryz.zeroCells71 l.toArray (by rw[zAd,List.size_toArray,h.len]) (by rw[←Array.length_toList,zAo,List.size_toArray,h.len]) (by
  rw[←Array.all_toList,List.all_eq_true];exact h.one)
 simpa using this
end
section
open Go.RowKit
structure PE where
 rb:Nat
 wb:Nat
 cb:Nat
 ere:Bool
 oa:Option Addr
 cap:Nat
 T:List Nat
 x:Addr
 y:Addr
def PE.W (E:PE) (k:Nat):Prop:=k=E.wb∨k=E.cb
section
variable {w w' w1:World} {E:PE} {i j:Nat} {l:List Value}
theorem zAb.bel {S:Nat→Prop} (h:Below w.heap.size w w'):zAb w w' S:=⟨h.os,h.tape,h.output,h.size,fun k hk _=>h.block k hk⟩
theorem zAb.put (E:PE) (w:World) (o:Nat) (v:Value):zAb w (w.setCell ⟨E.cb,o,none⟩ v) E.W:=(zAb.setCell w ⟨E.cb,o,none⟩ v).mono fun _ _ e=> .inr e
theorem zAb.tr {S:Nat→Prop} (h:zAb w w1 S) (h2:zAb w1 w' S):zAb w w' S:=h.trans h2 fun _ _ e=>e
end
end
section
open Go.RowKit
def Bys (w:World) (base:Nat) (v:Value) (T:List Nat):Prop:= ∃o c,v= .slice o T.length c∧w.ownsRow base 5 1 v T.length (u8s T)
section
variable {w w':World} {base:Nat} {l:List Value} {c:Cm} {S:Nat→Prop}
theorem Bys.kept {v:Value} {T:List Nat} (h:Bys w base v T) (k:zAb w w' S) (hS: ∀k,base≤k→ ¬S k):Bys w' base v T:=by
 obtain⟨o,c,rfl,h1⟩:=h
 exact⟨o,c,rfl,k.row h1 fun b hb=>hS b (h1.lt b hb).1⟩
end
end
section
open Go.RowKit
theorem ix0: ∀b,b<256→decide (0≤Lib.indexByte [125,58] ((b:Nat):Int).toNat.toUInt8)=decide (b∈[125,58]):=by decide+kernel
theorem ix1: ∀b,b<256→decide (0≤Lib.indexByte [61,97,105,113,114] ((b:Nat):Int).toNat.toUInt8)=decide (b∈[61,97,105,113,114]):=by decide+kernel
theorem ix2: ∀b,b<256→decide (0≤Lib.indexByte [123,98,99,100,68,103,71,104,72,108,110,78,112,80,115,116,119,120,121] ((b:Nat):Int).toNat.toUInt8)=decide (b∈[123,98,99,100,68,103,71,104,72,108,110,78,112,80,115,116,119,120,121]):=by decide+kernel
def zEL:Option Nat→Int
 |none=> -1
 |some m=>m
section
variable {w w':World} {b:Nat}
theorem zF3 (s:ByteArray) (L:List Nat) (hs: ∀b,b<256→decide (0≤Lib.indexByte s.data.toList ((b:Nat):Int).toNat.toUInt8)=decide (b∈L)) (hb:b<256):
  Calls Tryz.prog 146 #[.string s,.int .u8 (b:Nat)] w fun e w'=>(∃k:Int,e= .returned (.int .i64 k)∧(0≤k↔b∈L))∧w=w':=
 (shl.strings_IndexByte s b w).mono fun e w' ⟨he,hw⟩=>⟨⟨_,he,by have:=hs b hb;exact decide_eq_decide.1 this⟩,hw.symm⟩
theorem zIM (hb:b<256):Calls Tryz.prog 105 #[.int .u8 (b:Nat)] w fun e w'=>e= .returned (.int .i64 (zEL (zCT b)))∧w=w':=by
 have H0:=zL8 (fun w=>zF3 (w:=w) ⟨#[125,58]⟩ [125,58] ix0 hb)
 have H1:=zL8 (fun w=>zF3 (w:=w) ⟨#[61,97,105,113,114]⟩ [61,97,105,113,114] ix1 hb)
 have H2:=zL8 (fun w=>zF3 (w:=w) ⟨#[123,98,99,100,68,103,71,104,72,108,110,78,112,80,115,116,119,120,121]⟩ [123,98,99,100,68,103,71,104,72,108,110,78,112,80,115,116,119,120,121] ix2 hb)
 obtain⟨m,hm⟩: ∃m,zEL (zCT b)=m:=⟨_,rfl⟩
 rw[hm]
 unfold zCT at hm
 have HM:=zL8 hm
 clear hb hm
 go_enter Tryz.func105,Tryz.ntmps105
 go_wp2_with fail
 refine(H0.out _).mono ?_;rintro e w1 ⟨⟨k,rfl,hk⟩,rfl⟩
 by_cases h0:b∈[125,58]
 ·have q:=hk.2 h0
  have HMM:=zL8 (HM.out.symm.trans (by rw[if_pos h0];rfl:_=(0:Int)))
  clear h0 hk
  go_wp2_with fail
  go_ret
  exact⟨by rw[HMM.out];rfl,rfl⟩
 have q: ¬0≤k:=fun h=>h0 (hk.1 h)
 have HB0:=zL8 h0
 clear h0 hk
 go_wp2_with fail
 refine(H1.out _).mono ?_;rintro e w1 ⟨⟨k1,rfl,hk1⟩,rfl⟩
 by_cases h1:b∈[61,97,105,113,114]
 ·have q1:=hk1.2 h1
  have HMM:=zL8 (HM.out.symm.trans (by rw[if_neg HB0.out,if_pos h1];rfl:_=(1:Int)))
  clear h1 hk1
  go_wp2_with fail
  go_ret
  exact⟨by rw[HMM.out];rfl,rfl⟩
 have q1: ¬0≤k1:=fun h=>h1 (hk1.1 h)
 have HB1:=zL8 h1
 clear h1 hk1
 go_wp2_with fail
 refine(H2.out _).mono ?_;rintro e w1 ⟨⟨k2,rfl,hk2⟩,rfl⟩
 by_cases h2:b∈[123,98,99,100,68,103,71,104,72,108,110,78,112,80,115,116,119,120,121]
 ·have q2:=hk2.2 h2
  have HMM:=zL8 (HM.out.symm.trans (by rw[if_neg HB0.out,if_neg HB1.out,if_pos h2];rfl:_=(2:Int)))
  clear h2 hk2
  go_wp2_with fail
  go_ret
  exact⟨by rw[HMM.out];rfl,rfl⟩
 have q2: ¬0≤k2:=fun h=>h2 (hk2.1 h)
 have HMM:=zL8 (HM.out.symm.trans (by rw[if_neg HB0.out,if_neg HB1.out,if_neg h2];rfl:_=(-1:Int)))
 clear h2 hk2
 go_wp2_with fail
 go_ret
 exact⟨by rw[HMM.out];rfl,rfl⟩
end
end
end Go.Proofs.YtfcemodgopdkkaaGreatDoor
