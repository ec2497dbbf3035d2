/- Parts: Vp Vq Vt Yh. -/
import Derived.Test.YtfcemodgopdkkaaGreatDoorQ11
import Derived.Test.YtfcemodgopdkkaaGreatDoorQ17
import Derived.Test.YtfcemodgopdkkaaGreatDoorQ9
import Derived.Test.YtfcemodgopdkkaaGreatDoorQ6
import Derived.Test.YtfcemodgopdkkaaGreatDoorQ8
set_option maxHeartbeats 1600000
set_option maxRecDepth 100000
namespace Go.Proofs.YtfcemodgopdkkaaGreatDoor
section
open Go.RowKit
theorem zIA {w:World} {base:Nat} {e:TypeId} {o:Option Addr} {n c:Nat} {xs:List Value} (h:w.ownsRow base e 1 (.slice o n c) n xs):n≤c∧c≤maxLen:=by
 rcases h.2 with ⟨h1,h2⟩|⟨g,cap,cur,h1,hb,hg,hnc,hcm,hcs,ht⟩
 ·cases h1;exact⟨zMA _,by unfold maxLen;omega⟩
 ·cases h1;exact⟨hnc,hcm⟩
theorem zBJ {α β:Type} (f:α→β) (p:β→Bool) (q:α→Bool): ∀(l:List α),(∀x∈l,p (f x)=q x)→(l.map f).dropWhile p=(l.dropWhile q).map f
 |[],_=>rfl
 |x::l,h=>by
  rw[List.map_cons,List.dropWhile_cons,List.dropWhile_cons,h x (by simp)]
  split
  ·exact zBJ f p q l fun y hy=>h y (by simp[hy])
  ·rfl
theorem zCu: ∀b,b<256→([32,9]:List UInt8).contains (UInt8.ofNat ((b:Nat):Int).toNat)=zAa b:=by decide+kernel
theorem zHi {R:List Nat} (hu: ∀b∈R,b<256):(Lib.trimRightS (Lib.bytesOf (R.map fun b:Nat=>(b:Int))) [32,9]).length=(zBv R).length:=by
 unfold Lib.trimRightS zBv Lib.bytesOf
 rw[List.map_map,←List.map_reverse,zBJ ((fun n:Int=>UInt8.ofNat n.toNat) ∘ fun b:Nat=>(b:Int)) (fun x=>([32,9]:List UInt8).contains x) zAa _ fun x hx=>zCu x (hu x (by simpa using hx))]
 simp
section
variable {w w':World} {E:PE} {i j k n:Nat} {l:List Value} {base:Nat} {c:Cm}
end
end
section
open Go.RowKit
theorem zHj {R:List Nat} (hu: ∀b∈R,b<256):(Lib.trimLeftS (Lib.bytesOf (R.map fun b:Nat=>(b:Int))) [32,9]).length=(R.dropWhile zAa).length:=by
 unfold Lib.trimLeftS Lib.bytesOf
 rw[List.map_map,zBJ ((fun n:Int=>UInt8.ofNat n.toNat) ∘ fun b:Nat=>(b:Int)) (fun x=>([32,9]:List UInt8).contains x) zAa _ fun x hx=>zCu x (hu x hx)]
 simp
section
variable {w w':World} {wb:Nat} {oa:Option Addr} {cap:Nat} {T:List Nat} {i j:Nat}
theorem zG8 (o:Option Addr) (n c k:Nat) (hk:k≤n): ∀W,(Instr.slice 46 (.slice o n c) (some (.int .i64 (k:Nat))) none none).run Tryz.prog W= .ok (.slice (if c=k then o else o.map (·.add k)) (n - k) (c - k)) W:=fun W=>by
 rw[run_slice_l (P:=Tryz.prog) W 46 o n c (by kernel_rfl) .i64 k (by omega) (by omega),show(sizeOf (Tryz.prog.elem 46)).run Tryz.prog W= .ok 1 W by kernel_rfl]
 by_cases h:c=k
 ·simp[Result.andThen,sliced,h]
 ·have h2: ¬n=k∨True:= .inr trivial
  simp[Result.andThen,sliced,h]
theorem zHK (o:Option Addr) (n c k:Nat): ∃o3 c3,Lib.leftV o n c k= .slice o3 (n - k) c3:=by
 unfold Lib.leftV Lib.fromV
 split
 ·rename_i h1;exact⟨none,0,by rw[h1,Nat.sub_self]⟩
 ·exact⟨_,_,rfl⟩
end
end
section
open Go.RowKit
def PkR (w:World) (oa:Option Addr) (K:List Int):Prop:=
 0<K.length→ ∃nb no,oa=some ⟨nb,no,none⟩∧nb<w.heap.size∧ ∀i k,K[i]?=some k→w.cell? ⟨nb,no+i*2,none⟩=some (.int .i64 k)∧ ∃o n c,w.cell? ⟨nb,no+i*2+1,none⟩=some (.slice o n c)
def zBw (K:List Int):Int:=K.foldl (fun n x=>max n x) 0
theorem zGR (P:List Pc):zC8 P=zBw (P.map (·.k)):=by unfold zC8 zBw;rw[List.foldl_map]
section
variable {w w':World} {K:List Int} {oa:Option Addr} {ca:Nat}
theorem PkR.below (h:PkR w oa K) (hb:Below w.heap.size w w'):PkR w' oa K:=fun hp=>by
 obtain⟨nb,no,h1,h2,h3⟩:=h hp
 refine⟨nb,no,h1,zMB h2 hb.size,fun i k hk=>?_⟩
 obtain⟨e1,o,n,c,e2⟩:=h3 i k hk
 exact⟨(hb.cell (p:=⟨nb,no+i*2,none⟩) h2).trans e1,o,n,c,(hb.cell (p:=⟨nb,no+i*2+1,none⟩) h2).trans e2⟩
theorem zHQ (hv:PkR w oa K) (hl:K.length≤9223372036854775807):Calls Tryz.prog 108 #[.slice oa K.length ca] w fun e w'=>e= .returned (.int .i64 (zBw K))∧Below w.heap.size w w':=by
 have HV:=zL8 hv
 clear hv
 go_enter Tryz.func108,Tryz.ntmps108
 go_wp2_with fail
 go_loopg [3,8] K.length (fun gk mv kv wr=> ∃k:Nat,mv= .int .i64 (zBw (K.take k))∧kv= .int .i64 (k:Nat)∧gk=K.length - k∧k≤K.length∧Below w.heap.size w wr)
 case atStart=>exact⟨0,rfl,rfl,by omega,by omega,zL9 _ _⟩
 case round=>
 obtain⟨k,rfl,rfl,hg,hk,hb⟩:=hrel
 have HG:=zL8 hg
 have HBr:=zL8 hb
 by_cases hlt:k<K.length
 ·have hlt':(k:Int)<(K.length:Int):=by omega
  obtain⟨nb,no,rfl,hml,hcs⟩:=(HV.out.below hb) (by omega)
  obtain⟨z0,o,n,c,z1⟩:=hcs k K[k] (zMP hlt)
  have hmk:Hid (zBw (K.take (k+1))=max (zBw (K.take k)) K[k]):=zL8 (by
   show List.foldl _ _ _=_;rw[List.take_add_one,zMP hlt,List.foldl_append];rfl)
  generalize K[k]=x at z0 hmk
  generalize zBw (K.take k)=mm at hmk ⊢
  have hba:=(zL9 wr.heap.size wr).alloc (zMA _) (.cells #[.int .i64 x,.slice o n c] 73)
  have d0:(wr.alloc (.cells #[.int .i64 x,.slice o n c] 73)).cell? ⟨wr.heap.size,0,none⟩=some (.int .i64 x):=(zMN _ _ 0 _ _ (0,0) (zML wr _)).trans rfl
  have HB1:=zL8 (HBr.out.trans (hba.mono HBr.out.size))
  clear hg hb hcs hba
  go_upto_region 5 with fail
  obtain⟨W1,hW1⟩: ∃W,wr.alloc (.cells #[.int .i64 x,.slice o n c] 73)=W:=⟨_,rfl⟩
  rw[hW1]at d0 HB1 ⊢
  obtain⟨a1,ha1⟩: ∃a,wr.heap.size=a:=⟨_,rfl⟩
  rw[ha1]at d0 ⊢
  clear hW1 ha1 z0 z1 hml
  go_wp2_with fail
  go_roundg (K.length - (k+1))
  case measure=>have:=HG.out;omega
  case rel=>exact⟨k+1,by rw[hmk.out],by go_num,rfl,by omega,HB1.out⟩
 ·obtain rfl:k=K.length:=by omega
  have hlt': ¬(K.length:Int)<(K.length:Int):=by omega
  have HT:Hid (zBw (K.take K.length)=zBw K):=zL8 (by rw[List.take_length])
  clear hlt hg hb
  go_wp2_with fail
  go_ret
  exact⟨by rw[←HT.out];rfl,HBr.out⟩
end
end
section
open Go.RowKit
theorem zLV:ElT Tryz.prog 67 73 2 32 (.agg #[.int .i64 0,.slice none 0 0]):=⟨Tryz.underlying67,by kernel_rfl,rfl,by decide⟩
theorem zJD {w:World} {b1 b2 s1 s2 n1 n2:Nat} {e1 e2:TypeId} {v1 v2:Value} {x1 x2:List Value} (h1:w.ownsRow b1 e1 s1 v1 n1 x1) (h2:w.ownsRow b2 e2 s2 v2 n2 x2) (hne:e1≠e2): ∀g,v1.ownBlock=some g→some g≠v2.ownBlock:=by
 intro g hg he
 rcases h1.2 with ⟨rfl,_⟩|⟨g1,c1,cur1,rfl,_,hh1,_⟩
 ·cases hg
 ·rcases h2.2 with ⟨rfl,_⟩|⟨g2,c2,cur2,rfl,_,hh2,_⟩
  ·cases he
  ·simp only[Value.ownBlock,Option.some.injEq]at hg he
   subst hg
   subst he
   rw[hh1]at hh2
   cases hh2
   exact hne rfl
section
variable {w w' W:World} {base:Nat} {v v':Value} {P:List Pc} {ts:List Value}
theorem Bys.lt {t:Value} {T:List Nat} (h:Bys w base t T): ∀g,t.ownBlock=some g→base≤g∧g<w.heap.size:=by
 obtain⟨o,c,rfl,h⟩:=h
 exact h.lt
theorem Bys.block {t:Value} {T:List Nat} (h:Bys w base t T) (hb: ∀g,t.ownBlock=some g→w'.heap[g]?=w.heap[g]?):Bys w' base t T:=by
 obtain⟨o,c,rfl,h⟩:=h
 exact⟨o,c,rfl,zCy h hb⟩
end
end
end Go.Proofs.YtfcemodgopdkkaaGreatDoor
