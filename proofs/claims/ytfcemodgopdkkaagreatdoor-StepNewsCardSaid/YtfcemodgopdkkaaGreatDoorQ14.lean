/- Parts: Gw. -/
import Derived.Test.YtfcemodgopdkkaaGreatDoorQ12
import Derived.Test.YtfcemodgopdkkaaGreatDoorQ13
import Derived.Test.YtfcemodgopdkkaaGreatDoorQ8
import Derived.ChangeSlices
import Derived.SizedLaws
import Derived.OpenShut
import Derived.Deep.MidRow
import Derived.Deep.Slices
namespace Go.Proofs.YtfcemodgopdkkaaGreatDoor
open Go.ChangeShapes Go.WideShapes Go.RowKit Go.Deep
section
variable {H:Type}
def Sz (t:TypeId) (d:DataW H):Prop:= ∀n∈DataW.weights Tryz.prog t d,n≤reachBytes
theorem zCI {e:TypeId} : ∀ {l:List (DataW H)} {d:DataW H},d∈l→ ∀n∈DataW.weights Tryz.prog e d,n∈DataW.weightsAll Tryz.prog e l
 |a::l,d,hd,n,hn=>by
  simp only[DataW.weightsAll,List.mem_append]
  rcases List.mem_cons.1 hd with rfl|hd
  ·exact .inl hn
  ·exact .inr (zCI hd n hn)
 |[],_,hd,_,_=>by simp at hd
theorem Sz.slice {t e:TypeId} (ht:Tryz.prog.underlying t=some (.slice e)) {el sp:List (DataW H)} (h:Sz t (.slice el sp)):(el.length+sp.length)*Tryz.prog.bytesOf e≤reachBytes∧ ∀d∈el,Sz e d:=by
 unfold Sz at h
 simp only[DataW.weights,ht,List.mem_cons,List.mem_append]at h
 exact⟨h _ (.inl rfl),fun d hd n hn=>h n (.inr (.inl (zCI hd n hn)))⟩
theorem Sz.fld {t ty:TypeId} {fs:Array Field} (ht:Tryz.prog.underlying t=some (.struct fs)) {parts:List (DataW H)} (h:Sz t (.agg parts)) {i:Nat} {d:DataW H} (hf:(fs.toList.map (·.type))[i]?=some ty) (hd:parts[i]?=some d):Sz ty d:=fun n hn=>by
 refine h n ?_
 simp only[DataW.weights,ht]
 exact DataW.weights_mem_each hf hd n hn
end
section
variable {H:Type} {enc:TypeId × Value→H} {w:World} {spare:Nat→Bool} {held:Bool}
theorem zBI {t e:TypeId} {fuel:Nat} {x:DataW H × List MemPlace} (ht:Tryz.prog.underlying t=some (.slice e)) {o:Option Addr} {len cap:Nat} (h:DataW.trod enc Tryz.prog w 0 spare held fuel t [.slice o len cap]=some x) (hz:Sz t x.1):len*Tryz.prog.bytesOf e≤reachBytes:=by
 rcases open_slice ht h with ⟨h0,_⟩|⟨a,len2,cap2,m,n',D,Pl,hcs,_,_,_,_,rfl,_⟩
 ·simp only[List.cons.injEq,and_true,Value.slice.injEq]at h0
  rw[h0.2.1,Nat.zero_mul];decide
 ·simp only[List.cons.injEq,and_true,Value.slice.injEq]at hcs
  obtain⟨_,rfl,_⟩:=hcs
  have:=(Sz.slice ht hz).1
  refine zMV (zMh _ ?_) this
  simp
theorem zAj {t e:TypeId} {fuel:Nat} {cs:List Value} {x:DataW H × List MemPlace} (ht:Tryz.prog.underlying t=some (.slice e)) (h:DataW.trod enc Tryz.prog w 0 spare held fuel t cs=some x): ∃o len cap,cs=[.slice o len cap]:=by
 rcases open_slice ht h with ⟨h0,_⟩|⟨a,len2,cap2,m,n',D,Pl,hcs,_⟩
 ·exact⟨_,_,_,h0⟩
 ·exact⟨_,_,_,hcs⟩
theorem zCq {t:TypeId} {fuel:Nat} {cs:List Value} {x:DataW H × List MemPlace} (ht:Tryz.prog.underlying t=some (.slice 5)) (h:DataW.trod enc Tryz.prog w 0 spare held fuel t cs=some x) (hz:Sz t x.1): ∃o len cap,cs=[.slice o len cap]∧BtU w o len cap:=by
 obtain⟨o,len,cap,rfl⟩:=zAj ht h
 have hlen:=zBI ht h hz
 rw[show Tryz.prog.bytesOf 5=1 by kernel_rfl,Nat.mul_one]at hlen
 have hlen2:len≤140737488355328:=zMV hlen (by decide)
 refine⟨o,len,cap,rfl,?_⟩
 rcases open_ints ht Tryz.underlying5 (by kernel_rfl) h with ⟨h0,_⟩|⟨a,len2,cap2,zs,hcs,_,hl,_,hzl,_,hc,hw⟩
 ·simp only[List.cons.injEq,and_true,Value.slice.injEq]at h0
  obtain⟨rfl,rfl,rfl⟩:=h0
  exact⟨[],rfl,Src.nil w,hlen2,fun b hb=>by cases hb⟩
 ·simp only[List.cons.injEq,and_true,Value.slice.injEq]at hcs
  obtain⟨rfl,rfl,rfl⟩:=hcs
  have hzl2:len≤zs.length:=by rw[hzl];split<;>omega
  refine⟨(zs.take len).map Int.toNat,by simp;omega,.inr ⟨a,cap,rfl,fun j u hu=>?_⟩,hlen2,fun b hb=>by
   obtain⟨z,hz1,rfl⟩:=List.mem_map.1 hb
   have:=bounds_u8 (hw z (List.take_subset _ _ hz1))
   omega⟩
  simp only[u8s,List.map_map,List.getElem?_map,Option.map_eq_some_iff]at hu
  obtain⟨z,hz1,rfl⟩:=hu
  rw[List.getElem?_take]at hz1
  split at hz1
  ·rename_i hj
   have hm:z∈zs:=zMc hz1
   have hb:=bounds_u8 (hw z hm)
   have hg:zs.getD j 0=z:=by rw[zMH,hz1,Option.getD_some]
   have:=hc j (by omega)
   rw[this,hg]
   simp only[Function.comp_apply,Option.some.injEq,Value.int.injEq,true_and]
   omega
  ·cases hz1
theorem zFu {t:TypeId} {fuel:Nat} {cs:List Value} {x:DataW H × List MemPlace} (ht:Tryz.prog.underlying t=some (.slice 73)) (h:DataW.trod enc Tryz.prog w 0 spare held fuel t cs=some x) (hz:Sz t x.1): ∃o len cap,cs=[.slice o len cap]∧PcW w o len:=by
 obtain⟨o,len,cap,rfl⟩:=zAj ht h
 have hlen:=zBI ht h hz
 rw[show Tryz.prog.bytesOf 73=32 by kernel_rfl]at hlen
 have hlen2:len*32≤140737488355328:=zMV hlen (by decide)
 refine⟨o,len,cap,rfl,hlen2,fun hp=>?_⟩
 rcases open_slice ht h with ⟨h0,_⟩|⟨a,len2,cap2,m,n',D,Pl,hcs,hb,hl,hmx,hmm,rfl,hi⟩
 ·simp only[List.cons.injEq,and_true,Value.slice.injEq]at h0
  omega
 ·simp only[List.cons.injEq,and_true,Value.slice.injEq]at hcs
  obtain⟨rfl,rfl,rfl⟩:=hcs
  have hlm:len≤m:=by rw[hmm];split<;>omega
  have hel:=(Sz.slice ht hz).2
  rw[show Tryz.prog.cellsOf 73=2 by kernel_rfl]at hi
  have hall: ∀i,i<len→ ∃g ob lb cb,w.cell? (a.add (i*2))=some (.int .i64 g)∧w.cell? (a.add (i*2+1))=some (.slice ob lb cb)∧BtU w ob lb cb:=fun i hil=>by
   obtain⟨cs',hc,ht'⟩:=hi i (by omega)
   obtain⟨_,hl2,hat⟩:=World.cells?_some hc
   have hd:=hel (D i) (List.mem_map.2 ⟨i,List.mem_range.2 hil,rfl⟩)
   obtain⟨c0,c1,rfl⟩:=zGT hl2
   obtain⟨xs,n2,_,hx2,_,hxl,hf⟩:=DataW.trod_struct Tryz.underlying73 ht'
   obtain⟨x0,x1,rfl⟩:=zGT hxl
   have h0:=fld hf (i:=0) (ty:=3) (off:=0) (k:=1) rfl rfl rfl (by kernel_rfl)
   have h1:=fld hf (i:=1) (ty:=46) (off:=1) (k:=1) rfl rfl rfl (by kernel_rfl)
   simp only[List.drop_zero,List.take_succ_cons,List.take_zero,List.drop_succ_cons,List.getElem?_cons_zero,List.getElem?_cons_succ]at h0 h1
   obtain⟨g,e0,_,_⟩:=DataW.trod_int Tryz.underlying3 h0
   have hx3:D i= .agg [x0.1,x1.1]:=congrArg Prod.fst hx2
   rw[hx3]at hd
   obtain⟨ob,lb,cb,e1,hbt⟩:=zCq Tryz.underlying46 h1 (Sz.fld Tryz.underlying73 hd (i:=1) rfl rfl)
   simp only[List.cons.injEq,and_true]at e0 e1
   subst e0 e1
   refine⟨g,ob,lb,cb,?_,?_,hbt⟩
   ·have:=hat 0 (by decide)
    rw[add_add]at this
    exact this
   ·have:=hat 1 (by decide)
    rw[add_add]at this
    exact this
  obtain⟨b,off,spot⟩:=a
  obtain⟨_,_,_,_,k0,_,_⟩:=hall 0 hp
  have hspot:spot=none:=by simpa [Addr.add]using World.cell?_spot k0
  subst hspot
  refine⟨b,off,rfl,zIo k0,fun i hil=>?_⟩
  obtain⟨g,ob,lb,cb,e1,e2,e3⟩:=hall i hil
  rw[zAq]at e1 e2
  exact⟨g,ob,lb,cb,e1,by rw[←e2];rfl,e3⟩
end
end Go.Proofs.YtfcemodgopdkkaaGreatDoor
