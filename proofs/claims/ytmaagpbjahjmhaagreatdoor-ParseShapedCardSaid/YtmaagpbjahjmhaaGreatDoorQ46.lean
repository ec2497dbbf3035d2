/- Parts: Gw Gxa. -/
import Derived.Test.YtmaagpbjahjmhaaGreatDoorQ45
import Derived.Test.YtmaagpbjahjmhaaGreatDoorQ7
import Derived.Test.YtmaagpbjahjmhaaGreatDoorQ27
import Derived.ChangeSlices
import Derived.SizedLaws
import Derived.OpenShut
import Derived.Deep.MidRow
import Derived.Deep.Slices
import Derived.Deep.Grids
namespace Go.Proofs.YtmaagpbjahjmhaaGreatDoor
section
open Go.ChangeShapes Go.WideShapes Go.RowKit Go.Deep
section
variable {H:Type}
def Sz (t:TypeId) (d:DataW H):Prop:= ∀n∈DataW.weights Tryz.prog t d,n≤reachBytes
theorem zDw {e:TypeId} : ∀ {l:List (DataW H)} {d:DataW H},d∈l→ ∀n∈DataW.weights Tryz.prog e d,n∈DataW.weightsAll Tryz.prog e l
 |a::l,d,hd,n,hn=>by
  simp only[DataW.weightsAll,List.mem_append]
  rcases List.mem_cons.1 hd with rfl|hd
  ·exact .inl hn
  ·exact .inr (zDw hd n hn)
 |[],_,hd,_,_=>by simp at hd
theorem Sz.slice {t e:TypeId} (ht:Tryz.prog.underlying t=some (.slice e)) {el sp:List (DataW H)} (h:Sz t (.slice el sp)):(el.length+sp.length)*Tryz.prog.bytesOf e≤reachBytes∧ ∀d∈el,Sz e d:=by
 unfold Sz at h
 simp only[DataW.weights,ht,List.mem_cons,List.mem_append]at h
 exact⟨h _ (.inl rfl),fun d hd n hn=>h n (.inr (.inl (zDw hd n hn)))⟩
theorem Sz.fld {t ty:TypeId} {fs:Array Field} (ht:Tryz.prog.underlying t=some (.struct fs)) {parts:List (DataW H)} (h:Sz t (.agg parts)) {i:Nat} {d:DataW H} (hf:(fs.toList.map (·.type))[i]?=some ty) (hd:parts[i]?=some d):Sz ty d:=fun n hn=>by
 refine h n ?_
 simp only[DataW.weights,ht]
 exact DataW.weights_mem_each hf hd n hn
end
section
variable {H:Type} {enc:TypeId × Value→H} {w:World} {spare:Nat→Bool} {held:Bool}
theorem zFb {t e:TypeId} {fuel:Nat} {x:DataW H × List MemPlace} (ht:Tryz.prog.underlying t=some (.slice e)) {o:Option Addr} {len cap:Nat} (h:DataW.trod enc Tryz.prog w 0 spare held fuel t [.slice o len cap]=some x) (hz:Sz t x.1):len*Tryz.prog.bytesOf e≤reachBytes:=by
 rcases open_slice ht h with ⟨h0,_⟩|⟨a,len2,cap2,m,n',D,Pl,hcs,_,_,_,_,rfl,_⟩
 ·simp only[List.cons.injEq,and_true,Value.slice.injEq]at h0
  rw[h0.2.1,Nat.zero_mul];decide
 ·simp only[List.cons.injEq,and_true,Value.slice.injEq]at hcs
  obtain⟨_,rfl,_⟩:=hcs
  have:=(Sz.slice ht hz).1
  refine zRE (Nat.mul_le_mul_right _ ?_) this
  simp
theorem zDF {t e:TypeId} {fuel:Nat} {cs:List Value} {x:DataW H × List MemPlace} (ht:Tryz.prog.underlying t=some (.slice e)) (h:DataW.trod enc Tryz.prog w 0 spare held fuel t cs=some x): ∃o len cap,cs=[.slice o len cap]:=by
 rcases open_slice ht h with ⟨h0,_⟩|⟨a,len2,cap2,m,n',D,Pl,hcs,_⟩
 ·exact⟨_,_,_,h0⟩
 ·exact⟨_,_,_,hcs⟩
theorem zGp {t:TypeId} {fuel:Nat} {cs:List Value} {x:DataW H × List MemPlace} (ht:Tryz.prog.underlying t=some (.slice 5)) (h:DataW.trod enc Tryz.prog w 0 spare held fuel t cs=some x) (hz:Sz t x.1): ∃o len cap,cs=[.slice o len cap]∧BtU w o len cap:=by
 obtain⟨o,len,cap,rfl⟩:=zDF ht h
 have hlen:=zFb ht h hz
 rw[show Tryz.prog.bytesOf 5=1 by kernel_rfl,Nat.mul_one]at hlen
 have hlen2:len≤140737488355328:=zRE hlen (by decide)
 refine⟨o,len,cap,rfl,?_⟩
 rcases open_ints ht Tryz.underlying5 (by kernel_rfl) h with ⟨h0,_⟩|⟨a,len2,cap2,zs,hcs,_,hl,_,hzl,_,hc,hw⟩
 ·simp only[List.cons.injEq,and_true,Value.slice.injEq]at h0
  obtain⟨rfl,rfl,rfl⟩:=h0
  exact⟨[],rfl,Src.nil w,hlen2,fun b hb=>by cases hb⟩
 ·simp only[List.cons.injEq,and_true,Value.slice.injEq]at hcs
  obtain⟨rfl,rfl,rfl⟩:=hcs
  have hzl2:len≤zs.length:=by rw[hzl];split<;>omega
  refine⟨(zs.take len).map Int.toNat,by simp;omega,.inr ⟨a,cap,rfl,fun j u hu=>?_⟩,hlen2,fun b hb=>by
   obtain⟨z,hz1,rfl⟩:=List.mem_map.1 hb
   have:=bounds_u8 (hw z (List.take_subset _ _ hz1))
   omega⟩
  simp only[u8s,List.map_map,List.getElem?_map,Option.map_eq_some_iff]at hu
  obtain⟨z,hz1,rfl⟩:=hu
  rw[List.getElem?_take]at hz1
  split at hz1
  ·rename_i hj
   have hm:z∈zs:=zRL hz1
   have hb:=bounds_u8 (hw z hm)
   have hg:zs.getD j 0=z:=by rw[zQ0,hz1,Option.getD_some]
   have:=hc j (by omega)
   rw[this,hg]
   simp only[Function.comp_apply,Option.some.injEq,Value.int.injEq,true_and]
   omega
  ·cases hz1
theorem zJb {t:TypeId} {fuel:Nat} {cs:List Value} {x:DataW H × List MemPlace} (ht:Tryz.prog.underlying t=some (.slice 103)) (h:DataW.trod enc Tryz.prog w 0 spare held fuel t cs=some x) (hz:Sz t x.1): ∃o len cap,cs=[.slice o len cap]∧PcW w o len:=by
 obtain⟨o,len,cap,rfl⟩:=zDF ht h
 have hlen:=zFb ht h hz
 rw[show Tryz.prog.bytesOf 103=32 by kernel_rfl]at hlen
 have hlen2:len*32≤140737488355328:=zRE hlen (by decide)
 refine⟨o,len,cap,rfl,hlen2,fun hp=>?_⟩
 rcases open_slice ht h with ⟨h0,_⟩|⟨a,len2,cap2,m,n',D,Pl,hcs,hb,hl,hmx,hmm,rfl,hi⟩
 ·simp only[List.cons.injEq,and_true,Value.slice.injEq]at h0
  omega
 ·simp only[List.cons.injEq,and_true,Value.slice.injEq]at hcs
  obtain⟨rfl,rfl,rfl⟩:=hcs
  have hlm:len≤m:=by rw[hmm];split<;>omega
  have hel:=(Sz.slice ht hz).2
  rw[show Tryz.prog.cellsOf 103=2 by kernel_rfl]at hi
  have hall: ∀i,i<len→ ∃g ob lb cb,w.cell? (a.add (i*2))=some (.int .i64 g)∧w.cell? (a.add (i*2+1))=some (.slice ob lb cb)∧BtU w ob lb cb:=fun i hil=>by
   obtain⟨cs',hc,ht'⟩:=hi i (by omega)
   obtain⟨_,hl2,hat⟩:=World.cells?_some hc
   have hd:=hel (D i) (List.mem_map.2 ⟨i,List.mem_range.2 hil,rfl⟩)
   obtain⟨c0,c1,rfl⟩:=zKO hl2
   obtain⟨xs,n2,_,hx2,_,hxl,hf⟩:=DataW.trod_struct Tryz.underlying103 ht'
   obtain⟨x0,x1,rfl⟩:=zKO hxl
   have h0:=fld hf (i:=0) (ty:=3) (off:=0) (k:=1) rfl rfl rfl (by kernel_rfl)
   have h1:=fld hf (i:=1) (ty:=22) (off:=1) (k:=1) rfl rfl rfl (by kernel_rfl)
   simp only[List.drop_zero,List.take_succ_cons,List.take_zero,List.drop_succ_cons,List.getElem?_cons_zero,List.getElem?_cons_succ]at h0 h1
   obtain⟨g,e0,_,_⟩:=DataW.trod_int Tryz.underlying3 h0
   have hx3:D i= .agg [x0.1,x1.1]:=congrArg Prod.fst hx2
   rw[hx3]at hd
   obtain⟨ob,lb,cb,e1,hbt⟩:=zGp Tryz.underlying22 h1 (Sz.fld Tryz.underlying103 hd (i:=1) rfl rfl)
   simp only[List.cons.injEq,and_true]at e0 e1
   subst e0 e1
   refine⟨g,ob,lb,cb,?_,?_,hbt⟩
   ·have:=hat 0 (by decide)
    rw[add_add]at this
    exact this
   ·have:=hat 1 (by decide)
    rw[add_add]at this
    exact this
  obtain⟨b,off,spot⟩:=a
  obtain⟨_,_,_,_,k0,_,_⟩:=hall 0 hp
  have hspot:spot=none:=by simpa [Addr.add]using World.cell?_spot k0
  subst hspot
  refine⟨b,off,rfl,zMz k0,fun i hil=>?_⟩
  obtain⟨g,ob,lb,cb,e1,e2,e3⟩:=hall i hil
  rw[zCC]at e1 e2
  exact⟨g,ob,lb,cb,e1,by rw[←e2];rfl,e3⟩
end
end
section
open Go.ChangeShapes Go.WideShapes Go.RowKit Go.Deep
theorem zFI {cs l:List Value} {off k:Nat} (h:(cs.drop off).take k=l) {j:Nat} (hj:j<k):cs[off+j]?=l[j]?:=by
 rw[←h,List.getElem?_take,if_pos hj,List.getElem?_drop]
theorem zGv {α:Type} {l:List α} (h:l.length=3): ∃a b c,l=[a,b,c]:=by
 match l,h with
 |[a,b,c],_=>exact⟨a,b,c,rfl⟩
theorem zCn {cs:List Value} {off:Nat} {v:Value} (h:(cs.drop off).take 1=[v]):cs[off]?=some v:=by
 have:=zFI h (j:=0) (by decide)
 simpa using this
section
variable {H:Type} {enc:TypeId × Value→H} {w:World} {spare:Nat→Bool} {held:Bool}
theorem zIK {n:Nat} {cs:List Value} {x:DataW H × List MemPlace} (h:DataW.trod enc Tryz.prog w 0 spare held n 31 cs=some x) (hz:Sz 31 x.1):
  ∃(k m:Int) (oa:Option Addr) (re:List Nd) (ca:Nat),cs=[.int .i8 k,.int .i64 m,.slice oa re.length ca]∧NdW w oa ca re∧re.length*72≤140737488351232∧ -128≤k∧k≤127:=by
 obtain⟨xs,n',_,hx,hl,hxl,hf⟩:=DataW.trod_struct Tryz.underlying31 h
 have hl2:cs.length=3:=hl.trans (by kernel_rfl)
 obtain⟨c0,c1,c2,rfl⟩:=zGv hl2
 obtain⟨x0,x1,x2,rfl⟩:=zGv hxl
 have h0:=fld hf (i:=0) (ty:=28) (off:=0) (k:=1) rfl rfl rfl (by kernel_rfl)
 have h1:=fld hf (i:=1) (ty:=3) (off:=1) (k:=1) rfl rfl rfl (by kernel_rfl)
 have h2:=fld hf (i:=2) (ty:=29) (off:=2) (k:=1) rfl rfl rfl (by kernel_rfl)
 simp only[List.drop_zero,List.take_succ_cons,List.take_zero,List.drop_succ_cons,List.getElem?_cons_zero,List.getElem?_cons_succ]at h0 h1 h2
 obtain⟨k,e0,_,w0⟩:=DataW.trod_int Tryz.underlying28 h0
 obtain⟨m,e1,_,_⟩:=DataW.trod_int Tryz.underlying3 h1
 obtain⟨oa,len,ca,e2⟩:=zDF Tryz.underlying29 h2
 simp only[List.cons.injEq,and_true]at e0 e1 e2
 subst e0 e1 e2
 obtain⟨re,hl,hm,_⟩:=zGm (d:=x2.1) (p:=x2.2) Tryz.underlying29 ⟨n',h2⟩ rfl
 subst hl
 have hx1:x.1= .agg [x0.1,x1.1,x2.1]:=congrArg Prod.fst hx
 rw[hx1]at hz
 have:=zFb Tryz.underlying29 h2 (Sz.fld Tryz.underlying31 hz (i:=2) rfl rfl)
 rw[show Tryz.prog.bytesOf 101=72 by kernel_rfl]at this
 exact⟨k,m,oa,re,ca,rfl,hm,this,bounds_i8 w0⟩
theorem NdW.srcZ {oa:Option Addr} {cap:Nat} {re:List Nd} (h:NdW w oa cap re):Src w (.slice oa re.length cap) re.length (zEp re):=by
 cases oa with
 |none=>
  obtain⟨rfl,rfl⟩:=h.no rfl
  exact .inl ⟨rfl,rfl,rfl⟩
 |some a=>
  refine .inr ⟨a,cap,rfl,fun j u hu=>?_⟩
  have hj:j<(zEp re).length:=(zQy.1 hu).1
  rw[zBp]at hj
  obtain⟨nb,no,h1,_,h3⟩:=h.at_ (by omega)
  injection h1 with h1
  subst h1
  have hc:=zCr re (j / 9) (j % 9) (by omega) (Nat.mod_lt _ (by decide))
  rw[show j / 9*9+j % 9=j by omega,hu]at hc
  rw[zCC,show no+j=no+j / 9*9+j % 9 by omega,h3 (j / 9) (by omega) (j % 9) (Nat.mod_lt _ (by decide)),←hc]
end
end
end Go.Proofs.YtmaagpbjahjmhaaGreatDoor
