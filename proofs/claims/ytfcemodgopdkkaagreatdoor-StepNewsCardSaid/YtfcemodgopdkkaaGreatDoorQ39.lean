/- Parts: Xn Xo Xq Xr Xne Xnf. -/
import Derived.Test.YtfcemodgopdkkaaGreatDoorQ38
import Derived.Test.YtfcemodgopdkkaaGreatDoorQ24
import Derived.Test.YtfcemodgopdkkaaGreatDoorQ28
import Derived.Test.YtfcemodgopdkkaaGreatDoorQ37
import Derived.Test.YtfcemodgopdkkaaGreatDoorQ44
import Derived.Test.YtfcemodgopdkkaaGreatDoorQ45
import Derived.Test.YtfcemodgopdkkaaGreatDoorQ35
import Derived.Lib.SlBytesConst
set_option maxHeartbeats 25600000
set_option maxRecDepth 100000
namespace Go.Proofs.YtfcemodgopdkkaaGreatDoor
section
open Go.RowKit
theorem zCa {a b:ByteArray} (h:a≠b):(a.toList==b.toList)=false:=zME.2 fun e=>h (by
 rw[Lib.toList_data,Lib.toList_data]at e
 cases a
 cases b
 simpa using e)
section
variable {w:World} {oa ob:Option Addr} {ca cb:Nat} {T U:List Nat}
theorem zGB (ha:zBU w oa T) (hb:zBU w ob U) (hT: ∀b∈T,b<256) (hU: ∀b∈U,b<256):
  Calls Tryz.prog 110 #[.slice oa T.length ca,.slice ob U.length cb] w fun e w'=>e= .returned (.bool (T==U))∧w=w':=by
 have c1:=zBP (cap:=ca) ha
 have c2:=zBP (cap:=cb) hb
 have e1:(strOfNums (T.map fun b:Nat=>(b:Int)))=zBN T:=rfl
 have e2:(strOfNums (U.map fun b:Nat=>(b:Int)))=zBN U:=rfl
 rw[e1]at c1
 rw[e2]at c2
 by_cases h:T=U
 ·subst h
  have r:(T==T)=true:=by simp
  rw[r]
  clear e1 e2 ha hb hT hU r
  generalize zBN T=x at c1 c2
  go_enter Tryz.func110,Tryz.ntmps110
  go_wp2_with fail
  go_ret
  exact⟨rfl,rfl⟩
 ·have r:(T==U)=false:=by simpa using h
  rw[r]
  have hn:=zCa (fun e=>h ((zCA hT hU).1 e))
  clear e1 e2 ha hb hT hU r h
  generalize zBN T=x at c1 hn
  generalize zBN U=y at c2 hn
  go_enter Tryz.func110,Tryz.ntmps110
  go_wp2_with fail
  go_ret
  exact⟨rfl,rfl⟩
theorem zDT (ha:zBU w oa T) (hb:zBU w ob U) (hT: ∀b∈T,b<256) (hU: ∀b∈U,b<256) (zT:T.length≤4294967296) (zU:U.length≤4294967296) (hc:T.length≤ca):
  Calls Tryz.prog 61 #[.slice oa T.length ca,.slice ob U.length cb] w fun e w'=>e= .returned (.bool (T.take U.length==U))∧w=w':=by
 by_cases h:U.length≤T.length
 ·have hl:(T.take U.length).length=U.length:=by rw[List.length_take];omega
  have ht:zBU w oa (T.take U.length):=fun hp=>by
   obtain⟨g,o,h1,h2⟩:=ha (by omega)
   exact⟨g,o,h1,fun j hj=>by
    rw[h2 j (by omega),zMH,zMH,List.getElem?_take,if_pos (by omega)]⟩
  have hE:=zGB (ca:=ca) (cb:=cb) ht hb (fun b hb=>hT b (List.mem_of_mem_take hb)) hU
  rw[hl]at hE
  have HE:=zL8 hE
  have hg:((U.length:Nat):Int)≤(T.length:Int):=by omega
  have hg2:((U.length:Nat):Int)≤(ca:Int):=by omega
  clear hE ht hl ha hb hT hU hc
  generalize (T.take U.length==U)=r at HE
  go_enter Tryz.func61,Tryz.ntmps61
  go_wp2_with fail
  refine HE.out.mono ?_;rintro e w1 ⟨rfl,rfl⟩
  go_wp2_with fail
  go_ret
  exact⟨rfl,rfl⟩
 ·have r:(T.take U.length==U)=false:=by
   rw[List.take_of_length_le (by omega)]
   simp only[beq_eq_false_iff_ne]
   intro e
   exact h (by rw[e];exact zMA _)
  rw[r]
  have hg: ¬((U.length:Nat):Int)≤(T.length:Int):=by omega
  clear ha hb hT hU hc r h
  go_enter Tryz.func61,Tryz.ntmps61
  go_wp2_with fail
  go_ret
  exact⟨rfl,rfl⟩
end
section
variable {w:World} {o:Option Addr} {cap base:Nat} {fs:List (List Nat)} {t:List Nat}
def zLE (e:Ending) (fs:List (List Nat)) (t:List Nat):Prop:= ∃k:Int,e= .returned (.int .i64 k)∧decide (0≤k)=fs.contains t
theorem zLE.mk {fs:List (List Nat)} {t:List Nat} {k:Int} {v:Value} (hv:v= .int .i64 k) (h:decide (0≤k)=fs.contains t):zLE (.returned v) fs t:=⟨k,by rw[hv],h⟩
theorem zHn (h:w.ownsRow base 9 1 (.slice o fs.length cap) fs.length (fs.map zI2)) {d:Nat} (hd:d<fs.length): ∃g a,fs[d]?=some a∧o=some ⟨g,0,none⟩∧g<w.heap.size∧w.cell? ⟨g,d,none⟩=some (.string (zBN a)):=by
 obtain⟨_,g,rfl,hg,hc,_⟩:=zAZ h (by omega)
 obtain⟨u,hu,hcu⟩:=hc d (by omega)
 rw[List.getElem?_map,zMP hd]at hu
 cases hu
 exact⟨g,_,zMP hd,rfl,hg,hcu⟩
theorem zHN (h:w.ownsRow base 9 1 (.slice o fs.length cap) fs.length (fs.map zI2)) (hf: ∀a∈fs,∀b∈a,b<256) (ht: ∀b∈t,b<256) (hz:fs.length≤4294967296):
  Calls Tryz.prog 111 #[.slice o fs.length cap,.string (zBN t)] w fun e w'=>zLE e fs t∧w=w':=by
 have H:=zL8 h
 have HF:=zL8 hf
 have HT:=zL8 ht
 clear h hf ht
 go_enter Tryz.func111,Tryz.ntmps111
 go_wp2_with fail
 go_loopg [5,8] fs.length (fun k jv iv wr=> ∃d:Nat,iv= .int .i64 (d:Nat)∧k=fs.length - d∧d≤fs.length∧Hid ((fs.take d).contains t=false)∧w=wr)
 case atStart=>exact⟨0,rfl,by omega,by omega,zL8 (by simp),rfl⟩
 case round=>
 obtain⟨d,rfl,hg,hd,HC,rfl⟩:=hrel
 have HG:=zL8 hg
 clear hg
 by_cases hlt:d<fs.length
 ·have hlt':(d:Int)<(fs.length:Int):=by omega
  obtain⟨g,a,hda,rfl,hgl,c0⟩:=zHn H.out hlt
  have HDA:=zL8 hda
  have hab:=HF.out a (zMc hda)
  clear hda
  by_cases he:t=a
  ·subst he
   clear hab
   have HR:Hid (decide (0≤(d:Int))=fs.contains t):=zL8 (by
    rw[zMJ (by omega)]
    exact(List.contains_iff_mem.2 (zMc HDA.out)).symm)
   generalize zBN t=x at c0 ⊢
   go_wp2_with fail
   go_ret
   exact⟨zLE.mk rfl HR.out,rfl⟩
  ·have hn:=zCa (fun e=>he ((zCA HT.out hab).1 e))
   have HN:Hid ((fs.take (d+1)).contains t=false):=zL8 (by
    have h1:=HC.out
    rw[List.take_add_one,HDA.out]
    simp only[Option.toList_some,List.contains_eq_mem,List.mem_append,List.mem_singleton,decide_eq_false_iff_not,not_or]at h1 ⊢
    exact⟨h1,he⟩)
   clear hab he
   obtain⟨y,hy⟩: ∃y,zBN a=y:=⟨_,rfl⟩
   rw[hy]at c0 hn
   clear hy
   go_wp2_with fail
   go_roundg (fs.length - (d+1))
   case measure=>have:=HG.out;omega
   case rel=>exact⟨d+1,by go_num,rfl,by omega,HN,rfl⟩
 ·have hlt': ¬(d:Int)<(fs.length:Int):=by omega
  have HR:Hid (decide (0≤(-1:Int))=fs.contains t):=zL8 (by
   have h1:=HC.out
   rw[List.take_of_length_le (by omega)]at h1
   rw[h1]
   decide)
  go_wp2_with fail
  go_ret
  exact⟨zLE.mk rfl HR.out,rfl⟩
theorem zEP (h:w.ownsRow base 9 1 (.slice o fs.length cap) fs.length (fs.map zI2)) (hf: ∀a∈fs,∀b∈a,b<256) (ht: ∀b∈t,b<256) (hz:fs.length≤4294967296):
  Calls Tryz.prog 63 #[.slice o fs.length cap,.string (zBN t)] w fun e w'=>e= .returned (.bool (fs.contains t))∧w=w':=by
 have HI:=zL8 (zHN h hf ht hz)
 clear h hf ht
 obtain⟨r,hr⟩: ∃r,fs.contains t=r:=⟨_,rfl⟩
 rw[hr]
 have HR:=zL8 hr
 clear hr
 go_enter Tryz.func63,Tryz.ntmps63
 go_wp2_with fail
 refine HI.out.mono ?_;rintro e w1 ⟨⟨k,rfl,hk⟩,rfl⟩
 rw[HR.out]at hk
 subst hk
 go_wp2_with fail
 go_ret
 exact⟨rfl,rfl⟩
end
end
section
open Go.RowKit
theorem zFs: ∀(a r:List Rq) (i:Nat) (s:Rp),p1S (a++r) i s=match p1S a i s with
  |none=>none
  |some s'=>p1S r (i+a.length) s'
 |[],_,_,_=>rfl
 |c::a,r,i,s=>by
  rw[List.cons_append,p1S,p1S]
  cases p1c i c s with
  |none=>rfl
  |some s'=>
   simp only
   rw[zFs a r (i+1) s',List.length_cons,show i+1+a.length=i+(a.length+1)by omega]
theorem zGL {rs:List Rq} {i:Nat} {c:Rq} {s0 s:Rp} (h:p1S (rs.take i) 0 s0=some s) (hc:rs[i]?=some c):p1S (rs.take (i+1)) 0 s0=p1c i c s:=by
 have hi:=(zMF.1 hc).1
 rw[List.take_add_one,hc,zFs,h]
 simp only[Option.toList_some,p1S,List.length_take,show 0+min i rs.length=i by omega]
 cases p1c i c s<;>rfl
theorem zJG {rs:List Rq} {i:Nat} {c:Rq} {s:Rp} (h:p1S (rs.take i) 0 ⟨[],[],List.replicate rs.length 0⟩=some s) (hc:rs[i]?=some c) (hb:p1c i c s=none):zCR rs=none:=by
 have e:p1S rs 0 ⟨[],[],List.replicate rs.length 0⟩=none:=by
  have hi:=(zMF.1 hc).1
  have h2:=zGL h hc
  rw[hb]at h2
  have h3:=zFs (rs.take (i+1)) (rs.drop (i+1)) 0 ⟨[],[],List.replicate rs.length 0⟩
  rw[List.take_append_drop,h2]at h3
  exact h3
 rw[zCR,e]
theorem zCW: ∀(l:List Rq) (c:Rq) (f:List (List Nat)),zAO (l++[c]) f=if c.wrC&& !((zAO l f).contains c.tx)then zAO l f++[c.tx]else zAO l f
 |[],c,f=>rfl
 |d::l,c,f=>by
  rw[List.cons_append,zAO,zAO,zCW l c]
theorem zCt: ∀(l:List Rq) (f:List (List Nat)) (a:List Nat),a∈zAO l f→a∈f∨ ∃c∈l,a=c.tx
 |[],f,a,h=> .inl h
 |d::l,f,a,h=>by
  rw[zAO]at h
  rcases zCt l _ a h with h|⟨c,h1,h2⟩
  ·split at h
   ·rcases zMd.1 h with h|h
    ·exact .inl h
    ·exact .inr ⟨d,by simp,by simpa using h⟩
   ·exact .inl h
  ·exact .inr ⟨c,by simp[h1],h2⟩
theorem zBm: ∀(l:List Rq) (f:List (List Nat)),(zAO l f).length≤f.length+l.length
 |[],f=>by simp[zAO]
 |d::l,f=>by
  rw[zAO,List.length_cons]
  have h1:=zBm l (if d.wrC&& !(f.contains d.tx)then f++[d.tx]else f)
  have h2:(if d.wrC&& !(f.contains d.tx)then f++[d.tx]else f).length≤f.length+1:=by
   split
   ·simp
   ·omega
  omega
theorem zDH {α:Type} {l:List α} {i:Nat} {c:α} (h:l[i]?=some c):l.take (i+1)=l.take i++[c]:=by rw[List.take_add_one,h];rfl
theorem zH8 {i:Nat} {c:Rq} {s s':Rp} (h:p1c i c s=some s') (h1:s.op.length≤64) (h2: ∀j∈s.op,j<i):s'.op.length≤64∧ ∀j∈s'.op,j<i+1:=by
 have h3: ∀j∈s.op,j<i+1:=fun j hj=>Nat.lt_succ_of_lt (h2 j hj)
 unfold p1c at h
 split at h
 ·split at h
  ·split at h
   ·cases h
   ·cases h
    exact⟨by simp only[List.length_cons];omega,fun j hj=>by
     rcases List.mem_cons.1 hj with rfl|hj
     ·omega
     ·exact h3 j hj⟩
  ·split at h
   ·split at h
    ·cases h
    ·rename_i e
     cases h
     rw[e]at h1 h3
     exact⟨by simp only[List.length_cons]at h1 ⊢;omega,fun k hk=>h3 k (by simp[hk])⟩
   ·split at h
    ·split at h
     ·cases h
     ·cases h
      exact⟨h1,h3⟩
    ·cases h
     exact⟨h1,h3⟩
 ·cases h
theorem zJr (l:List Nat):l=[]∨ ∃j op,l=j::op:=by
 cases l with
 |nil=>exact .inl rfl
 |cons j op=>exact .inr ⟨j,op,rfl⟩
def CmS (w:World) (o:Option Addr) (ls:List (List Value)):Prop:= ∀i l,ls[i]?=some l→ ∃nb no,o=some ⟨nb,no,none⟩∧nb<w.heap.size∧w.rangeAt nb (no+i*272) l
theorem CmS.below {w w':World} {o:Option Addr} {ls:List (List Value)} (h:CmS w o ls) (hb:Below w.heap.size w w'):CmS w' o ls:=fun i l hl=>by
 obtain⟨nb,no,h1,h2,h3⟩:=h i l hl
 exact⟨nb,no,h1,zMB h2 hb.size,fun j v hv=>(hb.cell (p:=⟨nb,no+i*272+j,none⟩) h2).trans (h3 j v hv)⟩
def RzR (rs:List Rq) (ks:List NdK) (q:Bool) (base:Nat) (e:Ending) (w':World):Prop:=
 (zCR rs=none∧ ∃er at_:Int,er≠0∧e= .returned (.tuple #[.agg #[.slice none 0 0,.slice none 0 0,.slice none 0 0,.bool false],.int .i64 er,.int .i64 at_]))∨
 ∃tn,zCR rs=some tn∧tn.length=rs.length∧ ∃vc vt vf,e= .returned (.tuple #[.agg #[vc,vt,vf,.bool q],.int .i64 0,.int .i64 0])∧CmO w' base vc ks∧w'.ownsRow base 3 1 vt rs.length (tn.map (.int .i64))∧w'.ownsRow base 9 1 vf (zAO rs []).length ((zAO rs []).map zI2)
theorem RzR.bad {rs:List Rq} {ks:List NdK} {q:Bool} {base:Nat} {w':World} {er at_:Int} (h:zCR rs=none) (he:er≠0):RzR rs ks q base (.returned (.tuple #[.agg #[.slice none 0 0,.slice none 0 0,.slice none 0 0,.bool false],.int .i64 er,.int .i64 at_])) w':= .inl ⟨h,er,at_,he,rfl⟩
structure RzA (w0 w:World) (c g d mp:Nat) (vl vc vf vo:Value) (n:Nat) (q:Bool) (tn:List Int) (la:List (List Nat × Nat)) (ks:List NdK) (fs:List (List Nat)) (op:List Nat):Prop where
 F:RzF w c g d mp vl vc vf n q tn la
 L:RzL w (mp+1) vc vf vo ks fs op
 B:Below c w0 w
section
variable {w0 w w':World} {c g d mp n:Nat} {vl vc vf vo v:Value} {q:Bool} {tn:List Int} {la:List (List Nat × Nat)} {ks:List NdK} {fs:List (List Nat)} {op:List Nat}
theorem RzA.below (h:RzA w0 w c g d mp vl vc vf vo n q tn la ks fs op) (hb:Below w.heap.size w w'):RzA w0 w' c g d mp vl vc vf vo n q tn la ks fs op:=
 ⟨h.F.below hb,h.L.below hb,h.B.trans (hb.mono (by have:=h.F.lt;have:=h.F.o1;have:=h.F.o2;have:=h.F.o3;omega))⟩
theorem RzA.setTo (h:RzA w0 w c g d mp vl vc vf vo n q tn la ks fs op) (i:Nat) (x:Int):RzA w0 (w.setCell ⟨g,i,none⟩ (.int .i64 x)) c g d mp vl vc vf vo n q (tn.set i x) la ks fs op:=
 have h1:=h.F.o1
 have h2:=h.F.o2
 have h3:=h.F.o3
 ⟨h.F.setTo i x,h.L.kb (Kb.set (by omega) _ _),h.B.setCell (p:=⟨g,i,none⟩) (by show c≤g;omega) _⟩
theorem RzA.ins (h:RzA w0 w c g d mp vl vc vf vo n q tn la ks fs op) {t:List Nat} (ht: ∀b∈t,b<256) (k:Nat):RzA w0 (zHM w mp t k la) c g d mp vl vc vf vo n q tn (la++[(t,k)]) ks fs op:=
 have h1:=h.F.o1
 have h2:=h.F.o2
 have h3:=h.F.o3
 ⟨h.F.ins ht k,h.L.kb ⟨Nat.le_of_eq zDb.symm,fun j hj _=>zCF h.F.lm (by omega)⟩,zHX h.B h.F.lm (by omega)⟩
theorem RzA.cle (h:RzA w0 w c g d mp vl vc vf vo n q tn la ks fs op):c+4≤mp+1∧mp<w.heap.size:=⟨by have h1:=h.F.o1;have h2:=h.F.o2;have h3:=h.F.o3;omega,h.F.lt⟩
end
theorem zJt (w:World) {C:Array Value} {T:List Nat} (hC:C.toList=u8s T) (f:Nat × Nat):zBU (w.alloc (.cells C 5 f)) (some ⟨w.heap.size,0,none⟩) T:=fun _=>⟨w.heap.size,0,rfl,fun j hj=>by
 rw[zMN _ _ _ _ _ f (zML w _),Nat.zero_add,←Array.getElem?_toList,hC]
 simp[u8s,List.getElem?_eq_getElem hj,List.getD_eq_getElem?_getD]⟩
section
variable {w:World} {oc:Option Addr} {n cap:Nat} {ls:List (List Value)} {rs:List Rq} {ks:List NdK}
theorem zFm (hln:ls.length=n) (hrn:rs.length=n) (hkn:ks.length=n) (hm:CmS w oc ls) (hv: ∀(i:Nat) (l:List Value) (c:Rq) (k:NdK),ls[i]?=some l→rs[i]?=some c→ks[i]?=some k→RvC w l c k) (hz:n*440≤140737488351232) (q:Bool):
  Calls Tryz.prog 26 #[.slice oc n cap,.bool q] w fun e w'=>RzR rs ks q w.heap.size e w'∧Below w.heap.size w w':=by
 have hmf: ∀(fn:Fn) (first cap:Array Value) (w:World),(Instr.makeFunc fn first cap).run Tryz.prog w= .ok (.func fn first cap) w:=fun _ _ _ _=>rfl
 have HLN:=zL8 hln
 have HRN:=zL8 hrn
 have HKN:=zL8 hkn
 have HM0:=zL8 hm
 have HV0:=zL8 hv
 have HZ:=zL8 hz
 have hnz:(n:Int)≤319857928070:=by omega
 have hb0:(w.alloc (.cells #[.slice oc n cap] 22)).cell? ⟨w.heap.size,0,none⟩=some (.slice oc n cap):=zAL _ _ _ 0
 have e1:(w.alloc (.cells #[.slice oc n cap] 22)).heap.size=w.heap.size+1:=by simp
 have hp:=PrB.new (w.alloc (.cells #[.slice oc n cap] 22)) (.slice none 0 0) (.slice none 0 0) (.slice none 0 0) false
 rw[e1]at hp
 have hba:Below w.heap.size w ((w.alloc (.cells #[.slice oc n cap] 22)).alloc (.cells #[.slice none 0 0,.slice none 0 0,.slice none 0 0,.bool false] 26)):=((zL9 _ _).alloc (zMA _) _).alloc (by simp) _
 have hb1:=(zMC (w:=w.alloc (.cells #[.slice oc n cap] 22)) (w':=(w.alloc (.cells #[.slice oc n cap] 22)).alloc (.cells #[.slice none 0 0,.slice none 0 0,.slice none 0 0,.bool false] 26)) (a:=⟨w.heap.size,0,none⟩) (zMM _ _ (zAl _ _))).trans hb0
 have HB:=zL8 hba
 have H0:=zL8 hb1
 have HP:=zL8 hp
 clear hb0 hb1 e1 hp hba hm hv hln hrn hkn hz
 go_enter Tryz.func26,Tryz.ntmps26
 go_upto_region 1 with fail
 obtain⟨W,hW⟩: ∃W,(w.alloc (.cells #[.slice oc n cap] 22)).alloc (.cells #[.slice none 0 0,.slice none 0 0,.slice none 0 0,.bool false] 26)=W:=⟨_,rfl⟩
 rw[hW]at HB H0 HP ⊢
 clear hW
 obtain⟨c,hcz⟩: ∃c,w.heap.size=c:=⟨_,rfl⟩
 rw[hcz]at HB H0 HP ⊢
 have HCZ:=zL8 hcz
 clear hcz
 have b0:=H0.out
 have hl:c<W.heap.size:=zMf _ _ b0
 have hl1:=HP.out.lt
 obtain⟨i0,hi,hz0,hz1,hz2⟩:=info_parts (zLW).hi
 go_step3
 go_wp2_with (at_make;refine wpList_make_full _ rfl _ _ 23 rfl c 3 i0 _ 1 Tryz.underlying23 hi hz0 hz1 .i64 .i64 (n:Int) (n:Int) n rfl rfl (by omega) (by omega) (by rw[hz2];have:=HZ.out;omega) (by unfold maxLen;omega) (by omega) ?_)
 intro w1 hown hgr
 have hb1:Below W.heap.size W w1:=(zL9 _ _).grown hgr (zMA _) (fun k hk=>by cases hk)
 obtain⟨g,hg⟩: ∃g,W.heap.size=g:=⟨_,rfl⟩
 rw[hg]at hb1 hown ⊢
 have hmade:(madeCells #[Value.int .i64 0] n).toList=(List.replicate n (0:Int)).map (.int .i64):=by
  simp only[madeCells,Array.toList_map,Array.toList_range]
  refine List.ext_getElem? fun j=>?_
  by_cases hj:j<n
  ·rw[List.getElem?_map,List.getElem?_map,List.getElem?_range hj,List.getElem?_replicate,if_pos hj]
   simp[Nat.mod_one]
  ·rw[zMj (by simp;omega),zMj (by simp;omega)]
 rw[hmade]at hown
 have HOW:=zL8 hown
 have HB1:=zL8 (HB.out.trans (hb1.mono (by omega)))
 have H1:=zL8 ((hb1.cell (p:=⟨c,0,none⟩) (by show c<g;omega)).trans H0.out)
 have HP1:=zL8 (HP.out.same (hb1.block _ (by omega)) (by have:=hb1.size;omega))
 have HO2:Hid (c+1<g):=zL8 (by omega)
 have HGL:Hid (g<w1.heap.size):=zL8 (hown.lt _ rfl).2
 clear hgr hb1 hi hz0 hz1 hz2 b0 hl hl1 hg HB H0 HP hown hmade
 have b0:=H1.out
 have hl:c<w1.heap.size:=zMf _ _ b0
 have HQ:=zL8 (PrB.new w1 (.slice none 0 0) (.slice (some ⟨g,0,none⟩) n n) (.slice none 0 0) q)
 have hba:Below w1.heap.size w1 ((w1.alloc (.cells #[.slice none 0 0,.slice (some ⟨g,0,none⟩) n n,.slice none 0 0,.bool q] 26))):=(zL9 _ _).alloc (zMA _) _
 have HBA:=zL8 hba
 go_upto_region 2 with fail
 obtain⟨V,hV⟩: ∃V,w1.alloc (.cells #[.slice none 0 0,.slice (some ⟨g,0,none⟩) n n,.slice none 0 0,.bool q] 26)=V:=⟨_,rfl⟩
 rw[hV]at HBA HQ ⊢
 clear hV hba b0 hl
 obtain⟨d,hd⟩: ∃d,w1.heap.size=d:=⟨_,rfl⟩
 rw[hd]at HQ ⊢
 have HD:=zL8 hd
 clear hd
 go_wp2_with (refine zBi rfl _ rfl ?_)
 go_step3
 obtain⟨mp,hmp⟩: ∃mp,V.heap.size=mp:=⟨_,rfl⟩
 have HS3:Hid (RzA w (V.alloc (.map #[] 0)) c g d mp (.slice oc n cap) (.slice none 0 0) (.slice none 0 0) (.slice none 0 0) n q (List.replicate n 0) [] [] [] []):=zL8 (by
  have hbm:Below V.heap.size V (V.alloc (.map #[] 0)):=(zL9 _ _).alloc (zMA _) _
  have hdl:=HQ.out.lt
  have hgl:=HGL.out
  have ho2:=HO2.out
  have hde:=HD.out
  have hb2:Below w1.heap.size w1 (V.alloc (.map #[] 0)):=HBA.out.trans (hbm.mono (by omega))
  refine⟨⟨(hb2.cell (p:=⟨c,0,none⟩) (by show c<_;omega)).trans H1.out,HP1.out.below hb2,HQ.out.below hbm,by simp,zAK HOW.out fun k hk=>by cases hk;exact hb2.block g hgl,by rw[←hmp];exact MpL.nil V,ho2,by omega,by omega⟩,⟨CmO.nil _ _,zMO _ _ _ _,Ins.nil _ _⟩,HB1.out.trans (hb2.mono (by omega))⟩)
 obtain⟨U,hU⟩: ∃U,V.alloc (.map #[] 0)=U:=⟨_,rfl⟩
 rw[hU]at HS3 ⊢
 rw[hmp]
 clear hU hmp HQ HBA HGL HO2 HOW HB1 H1 HP1 HD
 have b0:=HS3.out.F.b0
 have hl:c<U.heap.size:=zMf _ _ b0
 go_wp2_with fail
 go_loopg [5,6,10,28] n (fun gk ev av ov kv wr=>ev= .int .i64 0∧av= .int .i64 0∧ ∃(i:Nat) (s:Rp) (vc vf:Value),kv= .int .i64 (i:Nat)∧gk=n - i∧i≤n∧Hid (p1S (rs.take i) 0 ⟨[],[],List.replicate rs.length 0⟩=some s)∧Hid (i≤4096∧s.op.length≤64∧ ∀j∈s.op,j<i)∧
  RzA w wr c g d mp (.slice oc n cap) vc vf ov n q s.to s.la (ks.take i) (zAO (rs.take i) []) s.op)
 case atStart=>exact⟨rfl,rfl,0,⟨[],[],List.replicate n 0⟩,.slice none 0 0,.slice none 0 0,rfl,rfl,by omega,zL8 (by rw[HRN.out];rfl),zL8 ⟨by omega,by simp,fun j hj=>by simp at hj⟩,HS3.out⟩
 case round=>
 obtain⟨rfl,rfl,i,s,vc,vf,rfl,hgk,hin0,HP1,HBD,ha⟩:=hrel
 have HGK:=zL8 hgk
 have HA:=zL8 ha
 clear hgk ha HS3 b0 hl
 obtain⟨ov,kvo,hvo⟩:=HA.out.L.op.form
 rw[show((s.op.reverse.map fun j:Nat=>(j:Int))).length=s.op.length by simp]at hvo
 subst hvo
 by_cases hlt:i<n
 case neg=>
  have hie:i=n:=by omega
  subst hie
  have HP2:Hid (p1S rs 0 ⟨[],[],List.replicate rs.length 0⟩=some s):=zL8 (by
   have h:=HP1.out
   rwa[List.take_of_length_le (by rw[HRN.out];exact zMA _)]at h)
  have HFT:Hid (zAO (rs.take i) []=zAO rs []):=zL8 (by rw[List.take_of_length_le (by rw[HRN.out];exact zMA _)])
  rw[HFT.out]at HA
  rw[List.take_of_length_le (by rw[HKN.out];exact zMA _)]at HA
  rcases zJr s.op with hso|⟨j0,op0,hso⟩
  case inr=>
   have HRB:Hid (zCR rs=none):=zL8 (by rw[zCR,HP2.out];simp[hso])
   obtain⟨j,hj⟩: ∃j,s.op.reverse[0]?=some j:=⟨_,zMP (by rw[List.length_reverse,hso];simp)⟩
   have hji:j<i:=HBD.out.2.2 j (List.mem_reverse.1 (zMc hj))
   have hpos:0<s.op.length:=by rw[hso];simp
   have hop:wr.ownsRow (mp+1) 3 1 (.slice ov s.op.length kvo) s.op.length ((s.op.reverse.map fun j:Nat=>(j:Int)).map (.int .i64)):=by
    have h:=HA.out.L.op
    unfold Ins at h
    rwa[show(s.op.reverse.map fun j:Nat=>(j:Int)).length=s.op.length by simp]at h
   obtain⟨_,ob,rfl,hobl,hobc,_⟩:=zAZ hop hpos
   have hcell:wr.cell? ⟨ob,0,none⟩=some (.int .i64 (j:Nat)):=by
    obtain⟨u,hu,hcu⟩:=hobc 0 (by omega)
    rw[List.getElem?_map,List.getElem?_map,hj]at hu
    rw[hcu,←hu]
    rfl
   obtain⟨m,hm⟩: ∃m,s.op.length=m:=⟨_,rfl⟩
   rw[hm]at hpos HA ⊢
   have hmp:0<(m:Int):=by omega
   obtain⟨l,hli⟩: ∃l,ls[j]?=some l:=⟨_,zMP (by rw[HLN.out];exact hji)⟩
   obtain⟨cq,hci⟩: ∃x,rs[j]?=some x:=⟨_,zMP (by rw[HRN.out];exact hji)⟩
   obtain⟨nk,hki⟩: ∃x,ks[j]?=some x:=⟨_,zMP (by rw[HKN.out];exact hji)⟩
   obtain⟨at_,hat⟩:=(HV0.out j l cq nk hli hci hki).at_
   obtain⟨nb,no,rfl,hnb,hrg⟩:=HM0.out j l hli
   have hb:=HA.out.B
   rw[←HCZ.out]at hb
   have b0:=HA.out.F.b0
   have HFC:=zL8 (fun e=>zCS (e:=e) (i:=j) b0 hji ((hb.cell (p:=⟨nb,no+j*272+8,none⟩) hnb).trans (hrg 8 _ hat)))
   clear hli hci hki hat hrg hb hso hj hop hobc hnb
   go_wp2_with fail
   refine(HFC.out _).mono ?_;rintro en wq ⟨rfl,hbq⟩
   have HAQ:=zL8 (HA.out.below hbq)
   have p0:=HAQ.out.F.pr.c0
   have p1:=HAQ.out.F.pr.c1
   have p2:=HAQ.out.F.pr.c2
   have p3:=HAQ.out.F.pr.c3
   have pl:=HAQ.out.F.pr.lt
   have pz:=HAQ.out.F.pr.fz
   clear hbq b0 HFC hcell hobl
   go_wp2_with fail
   rw[Exit.noGoto_ret]
   refine zAn (p:=4) (q:=5) (r:=6) Tryz.results26 rfl rfl rfl rfl (HAQ.out.F.pr.put (.slice none 0 0) (.slice none 0 0) (.slice none 0 0) false) ⟨RzR.bad HRB.out (by decide),?_⟩
   rw[HCZ.out]
   exact(((HAQ.out.B.setCell (p:=⟨c+1,0,none⟩) (by show c≤c+1;omega) _).setCell (p:=⟨c+1,1,none⟩) (by show c≤c+1;omega) _).setCell (p:=⟨c+1,2,none⟩) (by show c≤c+1;omega) _).setCell (p:=⟨c+1,3,none⟩) (by show c≤c+1;omega) _
  case inl=>
   have HRE:Hid (zCR rs=p2S i s.la rs 0 s.to):=zL8 (by rw[zCR,HP2.out];simp[hso,HRN.out])
   rw[hso]at HA
   have e0:s.op.length=0:=by rw[hso];rfl
   rw[e0]
   rw[List.length_nil]at HA
   clear hso e0 hlt
   have b0:=HA.out.F.b0
   have hcw:c<wr.heap.size:=zMf _ _ b0
   go_wp2_with fail
   go_loopg [5,6,183] i (fun gk ev av kv wr=>ev= .int .i64 0∧av= .int .i64 0∧ ∃(j:Nat) (tn:List Int),kv= .int .i64 (j:Nat)∧gk=i - j∧j≤i∧Hid (p2S i s.la (rs.drop j) j tn=zCR rs)∧RzA w wr c g d mp (.slice oc i cap) vc vf (.slice ov 0 kvo) i q tn s.la ks (zAO rs []) [])
   case atStart=>exact⟨rfl,rfl,0,s.to,rfl,rfl,by omega,zL8 HRE.out.symm,HA.out⟩
   case round=>
   obtain⟨rfl,rfl,j,tn,rfl,hgk2,hj0,HP3,ha⟩:=hrel
   have HGK2:=zL8 hgk2
   have HB:=zL8 ha
   clear hgk2 ha HA b0 hcw
   by_cases hlt:j<i
   case neg=>
    have hie:j=i:=by omega
    subst hie
    have HRT:Hid (zCR rs=some tn):=zL8 (by
     rw[←HP3.out,List.drop_of_length_le (by rw[HRN.out];exact zMA _)]
     rfl)
    obtain⟨xs,hxo,_⟩:=HB.out.L.cm
    obtain⟨oC,kC,rfl⟩:=zAI hxo
    obtain⟨oF,kF,rfl⟩:=zAI HB.out.L.fl
    clear hxo
    have d0:=HB.out.F.qr.c0
    have d1:=HB.out.F.qr.c1
    have d2:=HB.out.F.qr.c2
    have d3:=HB.out.F.qr.c3
    have hdl:=HB.out.F.qr.lt
    have p0:=HB.out.F.pr.c0
    have p1:=HB.out.F.pr.c1
    have p2:=HB.out.F.pr.c2
    have p3:=HB.out.F.pr.c3
    have pl:=HB.out.F.pr.lt
    have pz:=HB.out.F.pr.fz
    go_wp2_with fail
    rw[Exit.noGoto_ret]
    have hpf:=HB.out.F.pr.put (.slice oC ks.length kC) (.slice (some ⟨g,0,none⟩) j j) (.slice oF (zAO rs []).length kF) q
    have hk:Kb (mp+1) wr ((((wr.setCell ⟨c+1,0,none⟩ (.slice oC ks.length kC)).setCell ⟨c+1,1,none⟩ (.slice (some ⟨g,0,none⟩) j j)).setCell ⟨c+1,2,none⟩ (.slice oF (zAO rs []).length kF)).setCell ⟨c+1,3,none⟩ (.bool q)):=by
     have h1:c+1<mp+1:=by have:=HB.out.cle;omega
     exact(((Kb.set h1 _ _).trans (Kb.set h1 _ _)).trans (Kb.set h1 _ _)).trans (Kb.set h1 _ _)
    have hcm:w.heap.size≤mp+1:=by rw[HCZ.out];have:=HB.out.cle;omega
    refine zAn (p:=4) (q:=5) (r:=6) Tryz.results26 rfl rfl rfl rfl hpf ⟨.inr ⟨tn,HRT.out,by rw[HRN.out];exact HB.out.F.tl,_,_,_,rfl,(HB.out.L.cm.kb hk).mono hcm,?_,zAH (zAQ HB.out.L.fl hk) hcm⟩,?_⟩
    ·rw[HRN.out,HCZ.out]
     refine zAK HB.out.F.tr fun k hkk=>?_
     cases hkk
     have:=HB.out.F.o1
     rw[zMI _ _ _ _ (show g≠c+1 by omega),zMI _ _ _ _ (show g≠c+1 by omega),zMI _ _ _ _ (show g≠c+1 by omega),zMI _ _ _ _ (show g≠c+1 by omega)]
    ·rw[HCZ.out]
     exact(((HB.out.B.setCell (p:=⟨c+1,0,none⟩) (by show c≤c+1;omega) _).setCell (p:=⟨c+1,1,none⟩) (by show c≤c+1;omega) _).setCell (p:=⟨c+1,2,none⟩) (by show c≤c+1;omega) _).setCell (p:=⟨c+1,3,none⟩) (by show c≤c+1;omega) _
   have hlt':(j:Int)<(i:Int):=by omega
   obtain⟨l,hli⟩: ∃l,ls[j]?=some l:=⟨_,zMP (by rw[HLN.out];exact hlt)⟩
   obtain⟨cq,hci⟩: ∃x,rs[j]?=some x:=⟨_,zMP (by rw[HRN.out];exact hlt)⟩
   obtain⟨nk,hki⟩: ∃x,ks[j]?=some x:=⟨_,zMP (by rw[HKN.out];exact hlt)⟩
   have HRV0:=zL8 (HV0.out j l cq nk hli hci hki)
   have HDR:Hid (rs.drop j=cq::rs.drop (j+1)):=zL8 (by
    have hl:=(zMF.1 hci)
    obtain⟨h1,h2⟩:=hl
    rw[←h2]
    exact List.drop_eq_getElem_cons h1)
   obtain⟨nb,no,rfl,hnb,hrg⟩:=HM0.out j l hli
   have HNB:=zL8 hnb
   have HRG0:=zL8 hrg
   obtain⟨at_,hat⟩:=HRV0.out.at_
   have HAT:=zL8 hat
   have HW0:Hid (∀ {X:World},Below c w X→Below w.heap.size w X):=zL8 fun h=>by rw[HCZ.out];exact h
   have HRGX:Hid (∀ {X:World},Below c w X→X.rangeAt nb (no+j*272) l):=zL8 fun h k v hv=>((HW0.out h).cell (p:=⟨nb,no+j*272+k,none⟩) HNB.out).trans (HRG0.out k v hv)
   have HFX:Hid (∀ {X:World} {e:Int},X.cell? ⟨c,0,none⟩=some (.slice (some ⟨nb,no,none⟩) i cap)→Below c w X→Calls Tryz.prog 58 #[.int .i64 e,.int .i64 (j:Nat),.pointer (some ⟨c,0,none⟩)] X fun en w'=>en= .returned (.tuple #[.agg #[.slice none 0 0,.slice none 0 0,.slice none 0 0,.bool false],.int .i64 e,.int .i64 at_])∧Below X.heap.size X w'):=zL8 fun h1 h2=>zCS h1 hlt (HRGX.out h2 8 _ HAT.out)
   have HCI:Hid ((Tryz.prog.info? 71).map (·.size)=some l.length):=zL8 (by rw[HRV0.out.cl.len];exact zAd)
   have HSZ:=zL8 (zA2 HRV0.out.cl)
   have HSO:Hid (Tryz.zeroCells71.size=l.toArray.size):=zL8 (by rw[←Array.length_toList,List.size_toArray,zAo,HRV0.out.cl.len])
   have HON:Hid (l.toArray.all (·.oneCell')=true):=zL8 (by rw[←Array.all_toList,List.all_eq_true];simpa using HRV0.out.cl.one)
   have HHN:=zL8 (zML wr (.cells Tryz.zeroCells71 71))
   have HRG:=zL8 (HRGX.out HB.out.B)
   clear hli hci hki hnb hrg hat HRG0
   have hnw:nb<wr.heap.size:=zMB HNB.out (HW0.out HB.out.B).size
   have hbe:Below wr.heap.size wr ((wr.alloc (.cells Tryz.zeroCells71 71)).setRow wr.heap.size l.toArray):=zAv ((zL9 _ _).alloc (zMA _) _) (zMA _) _
   have HE:Hid (CmB ((wr.alloc (.cells Tryz.zeroCells71 71)).setRow wr.heap.size l.toArray) wr.heap.size l):=zL8 ⟨setRow_heap _ _ _ _ _ _ HHN.out,HRV0.out.cl⟩
   have HA1:=zL8 (HB.out.below hbe)
   go_upto_region 40 with (first|refine wpList_load_mid rfl 71 _ rfl nb (no+j*272) rfl l _ HRG.out Tryz.underlying71 rfl HCI.out ?_|refine wpList_store_row rfl 71 _ _ rfl wr.heap.size l.toArray rfl rfl _ _ HHN.out HSZ.out HSO.out HON.out ?_)
   obtain⟨X1,hX⟩: ∃X,(wr.alloc (.cells Tryz.zeroCells71 71)).setRow wr.heap.size l.toArray=X:=⟨_,rfl⟩
   rw[hX]at HE HA1 ⊢
   obtain⟨e,he⟩: ∃e,wr.heap.size=e:=⟨_,rfl⟩
   rw[he]at HE ⊢
   clear hX hbe HRG HHN HSO HON he HB hnw
   have k7:X1.cell? ⟨e,7,none⟩=some (.int .u8 (cq.nm:Nat)):=(HE.out.cell 7).trans HRV0.out.nm
   have hel:=HE.out.lt
   by_cases hbt:cq.nm=98∨cq.nm=116
   case neg=>
    have q1:((cq.nm:Int) !=98)=true:=by rw[bne_iff_ne];omega
    have q2:((cq.nm:Int) !=116)=true:=by rw[bne_iff_ne];omega
    have HP4:Hid (p2S i s.la (rs.drop (j+1)) (j+1) tn=zCR rs):=zL8 (by
     rw[←HP3.out,HDR.out,p2S,if_neg hbt])
    clear hbt
    go_wp2_with fail
    go_roundg (i - (j+1))
    case measure=>have:=HGK2.out;omega
    case rel=>exact⟨rfl,rfl,j+1,tn,by go_num,rfl,by omega,HP4,HA1.out⟩
   have HBT:=zL8 hbt
   simp only[Act.put]
   go_cut [195] (fun x wc=>x= .bool false∧X1=wc)
   case first=>
    rcases hbt with h98|h116
    ·have q1:((cq.nm:Int) !=98)=false:=by rw[h98];rfl
     clear h98
     go_wp2_with fail
     go_meet
     exact⟨rfl,rfl⟩
    ·have q1:((cq.nm:Int) !=98)=true:=by rw[h116];rfl
     have q2:((cq.nm:Int) !=116)=false:=by rw[h116];rfl
     clear h116
     go_wp2_with fail
     go_meet
     exact⟨rfl,rfl⟩
   case rest=>
   obtain⟨hx,hxw⟩:=hcut
   subst hx
   subst hxw
   clear k7 hbt
   obtain⟨ot,ct,h9,htx,htz,htc⟩:=(HRV0.out.below (HW0.out HA1.out.B)).tx
   have HT9:=zL8 h9
   have HTX:=zL8 htx
   clear h9 htz htx htc
   go_upto_region 41 with fail
   go_cut [17,18] (fun x y wc=> ∃(v:Int) (b:Bool),x= .int .i64 v∧y= .bool b∧Hid (match zBM cq.tx s.la with|none=>b=false|some m=>b=true∧v=(m:Nat))∧X1=wc)
   case first=>
    have k9:X1.cell? ⟨e,9,none⟩=some (.slice ot cq.tx.length ct):=(HE.out.cell 9).trans HT9.out
    have hcv:=zBP (cap:=ct) HTX.out
    rw[show strOfNums (cq.tx.map fun b:Nat=>(b:Int))=zBN cq.tx from rfl]at hcv
    cases hfs:zBM cq.tx s.la with
    |none=>
     go_wp2_with (refine zBf rfl _ _ rfl rfl rfl HA1.out.F.lm HRV0.out.tl ?_;rw[hfs];dsimp only)
     go_meet
     exact⟨_,_,rfl,rfl,zL8 (by rw[hfs]),rfl⟩
    |some m=>
     go_wp2_with (refine zBf rfl _ _ rfl rfl rfl HA1.out.F.lm HRV0.out.tl ?_;rw[hfs];dsimp only)
     go_meet
     exact⟨_,_,rfl,rfl,zL8 (by rw[hfs];exact⟨rfl,rfl⟩),rfl⟩
   case rest=>
   obtain⟨v,b,hx,hy,HFS,hxw⟩:=hcut
   subst hx
   subst hy
   subst hxw
   have k9:X1.cell? ⟨e,9,none⟩=some (.slice ot cq.tx.length ct):=(HE.out.cell 9).trans HT9.out
   have d1:=HA1.out.F.qr.c1
   have hdl:=HA1.out.F.qr.lt
   obtain⟨gj,g0⟩:=HA1.out.F.at_ hlt
   have gz:=zMY HA1.out.F.tr j
   have hgl:g<X1.heap.size:=zMf _ _ g0
   have b0:=HA1.out.F.b0
   have hcl:c<X1.heap.size:=zMf _ _ b0
   by_cases ht:cq.tx=[]
   case pos=>
    have hl0:cq.tx.length=0:=by rw[ht];rfl
    have HP4:Hid (p2S i s.la (rs.drop (j+1)) (j+1) (tn.set j i)=zCR rs):=zL8 (by
     rw[←HP3.out,HDR.out,p2S,if_pos HBT.out,if_pos ht])
    rw[hl0]at k9
    have HA2:=zL8 (HA1.out.setTo j (i:Nat))
    clear ht hl0
    go_wp2_with fail
    go_roundg (i - (j+1))
    case measure=>have:=HGK2.out;omega
    case rel=>exact⟨rfl,rfl,j+1,_,by go_num,rfl,by omega,HP4,HA2.out⟩
   have hl1:((cq.tx.length:Int)==0)=false:=by
    rw[zME]
    intro h
    exact ht (zMg (by omega))
   cases hfs:zBM cq.tx s.la with
   |none=>
    have hb:b=false:=by have h:=HFS.out;rw[hfs]at h;exact h
    have HRB:Hid (zCR rs=none):=zL8 (by
     rw[←HP3.out,HDR.out,p2S,if_pos HBT.out,if_neg ht,hfs])
    subst hb
    clear ht hfs d1 hdl g0 gz hgl b0
    have b0:=HA1.out.F.b0
    have HFC:=zL8 (fun e=>HFX.out (e:=e) b0 HA1.out.B)
    go_wp2_with fail
    refine(HFC.out _).mono ?_;rintro en wq ⟨rfl,hbq⟩
    have HAQ:=zL8 (HA1.out.below hbq)
    have p0:=HAQ.out.F.pr.c0
    have p1:=HAQ.out.F.pr.c1
    have p2:=HAQ.out.F.pr.c2
    have p3:=HAQ.out.F.pr.c3
    have pl:=HAQ.out.F.pr.lt
    have pz:=HAQ.out.F.pr.fz
    clear hbq b0 HFC
    go_wp2_with fail
    rw[Exit.noGoto_ret]
    refine zAn (p:=4) (q:=5) (r:=6) Tryz.results26 rfl rfl rfl rfl (HAQ.out.F.pr.put (.slice none 0 0) (.slice none 0 0) (.slice none 0 0) false) ⟨RzR.bad HRB.out (by decide),?_⟩
    rw[HCZ.out]
    exact(((HAQ.out.B.setCell (p:=⟨c+1,0,none⟩) (by show c≤c+1;omega) _).setCell (p:=⟨c+1,1,none⟩) (by show c≤c+1;omega) _).setCell (p:=⟨c+1,2,none⟩) (by show c≤c+1;omega) _).setCell (p:=⟨c+1,3,none⟩) (by show c≤c+1;omega) _
   |some m=>
    have hb:b=true∧v=(m:Nat):=by have h:=HFS.out;rw[hfs]at h;exact h
    obtain⟨rfl,rfl⟩:=hb
    have HP4:Hid (p2S i s.la (rs.drop (j+1)) (j+1) (tn.set j (m:Nat))=zCR rs):=zL8 (by
     rw[←HP3.out,HDR.out,p2S,if_pos HBT.out,if_neg ht,hfs])
    have HA2:=zL8 (HA1.out.setTo j (m:Nat))
    clear ht hfs
    go_wp2_with fail
    go_roundg (i - (j+1))
    case measure=>have:=HGK2.out;omega
    case rel=>exact⟨rfl,rfl,j+1,_,by go_num,rfl,by omega,HP4,HA2.out⟩
 have hlt':(i:Int)<(n:Int):=by omega
 obtain⟨l,hli⟩: ∃l,ls[i]?=some l:=⟨_,zMP (by rw[HLN.out];exact hlt)⟩
 obtain⟨cq,hci⟩: ∃x,rs[i]?=some x:=⟨_,zMP (by rw[HRN.out];exact hlt)⟩
 obtain⟨nk,hki⟩: ∃x,ks[i]?=some x:=⟨_,zMP (by rw[HKN.out];exact hlt)⟩
 have HCQ:=zL8 hci
 have HNK:=zL8 hki
 have HRV0:=zL8 (HV0.out i l cq nk hli hci hki)
 obtain⟨nb,no,rfl,hnb,hrg⟩:=HM0.out i l hli
 have HNB:=zL8 hnb
 have HRG0:=zL8 hrg
 obtain⟨at_,hat⟩:=HRV0.out.at_
 have HAT:=zL8 hat
 have HW0:Hid (∀ {X:World},Below c w X→Below w.heap.size w X):=zL8 fun h=>by rw[HCZ.out];exact h
 have HRGX:Hid (∀ {X:World},Below c w X→X.rangeAt nb (no+i*272) l):=zL8 fun h j v hv=>((HW0.out h).cell (p:=⟨nb,no+i*272+j,none⟩) HNB.out).trans (HRG0.out j v hv)
 have HFX:Hid (∀ {X:World} {e:Int},X.cell? ⟨c,0,none⟩=some (.slice (some ⟨nb,no,none⟩) n cap)→Below c w X→Calls Tryz.prog 58 #[.int .i64 e,.int .i64 (i:Nat),.pointer (some ⟨c,0,none⟩)] X fun en w'=>en= .returned (.tuple #[.agg #[.slice none 0 0,.slice none 0 0,.slice none 0 0,.bool false],.int .i64 e,.int .i64 at_])∧Below X.heap.size X w'):=zL8 fun h1 h2=>zCS h1 hlt (HRGX.out h2 8 _ HAT.out)
 have HPN:Hid (∀ {b:Bool},(b=false→p1c i cq s=none)→b=false→zCR rs=none):=zL8 fun h hb=>zJG HP1.out HCQ.out (h hb)
 have HCI:Hid ((Tryz.prog.info? 71).map (·.size)=some l.length):=zL8 (by rw[HRV0.out.cl.len];exact zAd)
 have HSZ:=zL8 (zA2 HRV0.out.cl)
 have HSO:Hid (Tryz.zeroCells71.size=l.toArray.size):=zL8 (by rw[←Array.length_toList,List.size_toArray,zAo,HRV0.out.cl.len])
 have HON:Hid (l.toArray.all (·.oneCell')=true):=zL8 (by rw[←Array.all_toList,List.all_eq_true];simpa using HRV0.out.cl.one)
 have HHN:=zL8 (zML wr (.cells Tryz.zeroCells71 71))
 have HRG:=zL8 (HRGX.out HA.out.B)
 clear hli hci hki hnb hrg hat HRG0
 have b0:=HA.out.F.b0
 have hcw:c<wr.heap.size:=zMf _ _ b0
 have hnw:nb<wr.heap.size:=zMB HNB.out (HW0.out HA.out.B).size
 have hbe:Below wr.heap.size wr ((wr.alloc (.cells Tryz.zeroCells71 71)).setRow wr.heap.size l.toArray):=zAv ((zL9 _ _).alloc (zMA _) _) (zMA _) _
 have HE:Hid (CmB ((wr.alloc (.cells Tryz.zeroCells71 71)).setRow wr.heap.size l.toArray) wr.heap.size l):=zL8 ⟨setRow_heap _ _ _ _ _ _ HHN.out,HRV0.out.cl⟩
 have HA1:=zL8 (HA.out.below hbe)
 go_upto_region 8 with (first|refine wpList_load_mid rfl 71 _ rfl nb (no+i*272) rfl l _ HRG.out Tryz.underlying71 rfl HCI.out ?_|refine wpList_store_row rfl 71 _ _ rfl wr.heap.size l.toArray rfl rfl _ _ HHN.out HSZ.out HSO.out HON.out ?_)
 obtain⟨X1,hX⟩: ∃X,(wr.alloc (.cells Tryz.zeroCells71 71)).setRow wr.heap.size l.toArray=X:=⟨_,rfl⟩
 rw[hX]at HE HA1 ⊢
 obtain⟨e,he⟩: ∃e,wr.heap.size=e:=⟨_,rfl⟩
 have HEL:Hid (mp<e∧ ∀k,vc.ownBlock=some k→k<e):=zL8 (by
  rw[←he]
  obtain⟨xs,h1,_⟩:=HA.out.L.cm
  exact⟨HA.out.F.lt,fun k hk=>(World.ownsRow.lt h1 k hk).2⟩)
 rw[he]at HE ⊢
 clear hX hbe hcw b0 HRG HHN HSO HON he HA hnw
 have d1:=HA1.out.F.qr.c1
 have hdl:=HA1.out.F.qr.lt
 obtain⟨gi,g0⟩:=HA1.out.F.at_ hlt
 have gz:=zMY HA1.out.F.tr i
 have hgl:g<X1.heap.size:=zMf _ _ g0
 have HA2:=zL8 (HA1.out.setTo i (-1))
 have HE2:=zL8 (zAp HE.out (show e≠g by have:=HA1.out.F.o2;have:=HA1.out.F.o3;have:=HEL.out.1;omega) i (.int .i64 (-1)))
 go_upto_region 9 with fail
 obtain⟨X2,hX⟩: ∃X,X1.setCell ⟨g,i,none⟩ (.int .i64 (-1))=X:=⟨_,rfl⟩
 rw[hX]at HA2 HE2 ⊢
 clear hX d1 hdl g0 gz hgl HA1 HE
 by_cases h4:4096≤i
 case pos=>
  have h4':(4096:Int)≤(i:Int):=by omega
  have HRB:Hid (zCR rs=none):=zL8 (HPN.out (b:=false) (fun _=>by rw[p1c,if_neg];simp[Rq.low];omega) rfl)
  have b0:=HA2.out.F.b0
  have HFC:=zL8 (fun e=>HFX.out (e:=e) b0 HA2.out.B)
  go_wp2_with fail
  refine(HFC.out _).mono ?_;rintro en wq ⟨rfl,hbq⟩
  have HAQ:=zL8 (HA2.out.below hbq)
  have p0:=HAQ.out.F.pr.c0
  have p1:=HAQ.out.F.pr.c1
  have p2:=HAQ.out.F.pr.c2
  have p3:=HAQ.out.F.pr.c3
  have pl:=HAQ.out.F.pr.lt
  have pz:=HAQ.out.F.pr.fz
  clear hbq b0 HFC
  go_wp2_with fail
  rw[Exit.noGoto_ret]
  refine zAn (p:=4) (q:=5) (r:=6) Tryz.results26 rfl rfl rfl rfl (HAQ.out.F.pr.put (.slice none 0 0) (.slice none 0 0) (.slice none 0 0) false) ⟨RzR.bad HRB.out (by decide),?_⟩
  rw[HCZ.out]
  exact(((HAQ.out.B.setCell (p:=⟨c+1,0,none⟩) (by show c≤c+1;omega) _).setCell (p:=⟨c+1,1,none⟩) (by show c≤c+1;omega) _).setCell (p:=⟨c+1,2,none⟩) (by show c≤c+1;omega) _).setCell (p:=⟨c+1,3,none⟩) (by show c≤c+1;omega) _
 have h4': ¬(4096:Int)≤(i:Int):=by omega
 have HRV2:=zL8 (HRV0.out.below (HW0.out HA2.out.B))
 have HSH:=zL8 (HRV0.out.sh X2 (HW0.out HA2.out.B))
 go_wp2_with (refine wpList_load_row rfl 71 _ rfl e rfl 71 l.toArray (0,0) _ HE2.out.heap Tryz.underlying71 rfl HSZ.out ?_)
 refine HSH.out.mono ?_;rintro e3 X3 ⟨rfl,hb3⟩
 have HA3:=zL8 (HA2.out.below hb3)
 have HE3:=zL8 (HE2.out.below hb3)
 clear hb3 HA2 HE2 HSH HRV2
 by_cases hok:cq.ok=true
 case neg=>
  have hok':cq.ok=false:=by simpa using hok
  have HRB:Hid (zCR rs=none):=zL8 (HPN.out (b:=false) (fun _=>by rw[p1c,if_neg];simp[Rq.low,hok']) rfl)
  rw[hok']
  clear hok hok'
  have b0:=HA3.out.F.b0
  have HFC:=zL8 (fun e=>HFX.out (e:=e) b0 HA3.out.B)
  go_wp2_with fail
  refine(HFC.out _).mono ?_;rintro en wq ⟨rfl,hbq⟩
  have HAQ:=zL8 (HA3.out.below hbq)
  have p0:=HAQ.out.F.pr.c0
  have p1:=HAQ.out.F.pr.c1
  have p2:=HAQ.out.F.pr.c2
  have p3:=HAQ.out.F.pr.c3
  have pl:=HAQ.out.F.pr.lt
  have pz:=HAQ.out.F.pr.fz
  clear hbq b0 HFC
  go_wp2_with fail
  rw[Exit.noGoto_ret]
  refine zAn (p:=4) (q:=5) (r:=6) Tryz.results26 rfl rfl rfl rfl (HAQ.out.F.pr.put (.slice none 0 0) (.slice none 0 0) (.slice none 0 0) false) ⟨RzR.bad HRB.out (by decide),?_⟩
  rw[HCZ.out]
  exact(((HAQ.out.B.setCell (p:=⟨c+1,0,none⟩) (by show c≤c+1;omega) _).setCell (p:=⟨c+1,1,none⟩) (by show c≤c+1;omega) _).setCell (p:=⟨c+1,2,none⟩) (by show c≤c+1;omega) _).setCell (p:=⟨c+1,3,none⟩) (by show c≤c+1;omega) _
 rw[hok]
 have HOK:=zL8 hok
 clear hok
 obtain⟨ot,ct,h9,htx,htz,htc⟩:=(HRV0.out.below (HW0.out HA3.out.B)).tx
 have HTX:=zL8 htx
 have HT9:=zL8 h9
 have HTZ:=zL8 htz
 have HTC:=zL8 htc
 have HTI:Hid (∀ {X:World},Below c w X→zBU X ot cq.tx):=zL8 fun h=>by
  obtain⟨o',c',h9',h1,_⟩:=(HRV0.out.below (HW0.out h)).tx
  have e9:=HT9.out
  rw[h9']at e9
  cases e9
  exact h1
 clear htx h9 htz htc HTX
 go_upto_region 13 with fail
 go_cut [56] (fun x wc=>x= .bool ((cq.nm==114||cq.wrC)&&zDC cq.tx)∧RzA w wc c g d mp (.slice (some ⟨nb,no,none⟩) n cap) vc vf (.slice ov s.op.length kvo) n q (s.to.set i (-1)) s.la (ks.take i) (zAO (rs.take i) []) s.op∧CmB wc e l)
 case first=>
  have k7:X3.cell? ⟨e,7,none⟩=some (.int .u8 (cq.nm:Nat)):=(HE3.out.cell 7).trans HRV0.out.nm
  have k9:X3.cell? ⟨e,9,none⟩=some (.slice ot cq.tx.length ct):=(HE3.out.cell 9).trans HT9.out
  have hel:=HE3.out.lt
  by_cases h114:cq.nm=114
  ·have q1:((cq.nm:Int)==114)=true:=by rw[beq_iff_eq];omega
   have HEQ:Hid (((cq.nm==114||cq.wrC)&&zDC cq.tx)=(cq.tx.take 8==[46,103,97,108,108,101,121,45])):=zL8 (by simp[h114,zDC])
   have hbp:Below X3.heap.size X3 (X3.alloc (.cells #[.int .u8 46,.int .u8 103,.int .u8 97,.int .u8 108,.int .u8 108,.int .u8 101,.int .u8 121,.int .u8 45] 5 (8,9))):=(zL9 _ _).alloc (zMA _) _
   have HPX:=zL8 (zDT (w:=X3.alloc (.cells #[.int .u8 46,.int .u8 103,.int .u8 97,.int .u8 108,.int .u8 108,.int .u8 101,.int .u8 121,.int .u8 45] 5 (8,9))) (ca:=ct) (cb:=8) (U:=[46,103,97,108,108,101,121,45]) (HTI.out (HA3.out.below hbp).B) (zJt X3 rfl (8,9)) HRV0.out.tl (by decide) HTZ.out (by decide) HTC.out)
   have HA4:=zL8 (HA3.out.below hbp)
   have HE4:=zL8 (HE3.out.below hbp)
   obtain⟨tb,htb⟩: ∃tb,(cq.tx.take 8==[46,103,97,108,108,101,121,45])=tb:=⟨_,rfl⟩
   rw[htb]at HEQ
   have hl8:([46,103,97,108,108,101,121,45]:List Nat).length=8:=rfl
   rw[hl8,htb]at HPX
   clear hbp h114 htb hl8
   have hcvb:(convert 46 46 (.slice (some ⟨X3.heap.size,0,none⟩) 8 8)).run Tryz.prog (X3.alloc (.cells #[.int .u8 46,.int .u8 103,.int .u8 97,.int .u8 108,.int .u8 108,.int .u8 101,.int .u8 121,.int .u8 45] 5))= .ok (.slice (some ⟨X3.heap.size,0,none⟩) 8 8) (X3.alloc (.cells #[.int .u8 46,.int .u8 103,.int .u8 97,.int .u8 108,.int .u8 108,.int .u8 101,.int .u8 121,.int .u8 45] 5 (8,9))):=Lib.run_convert_bytes_const X3 _ _ _ 8 8 Tryz.underlying46 Tryz.underlying5
   go_wp2_with fail
   refine HPX.out.mono ?_;rintro e4 X4 ⟨rfl,rfl⟩
   go_wp2_with fail
   go_meet
   exact⟨by first|rw[HEQ.out]|exact HEQ.out.symm|simpa using HEQ.out.symm,HA4.out,HE4.out⟩
  ·have q1:((cq.nm:Int)==114)=false:=by simp;omega
   have HWR:=zL8 (zDR (w:=X3) HRV0.out.cl HRV0.out.nm HRV0.out.wr)
   have HWC:Hid ((cq.nm==119||(cq.nm==115&&cq.wr))=cq.wrC):=zL8 rfl
   rw[HWC.out]at HWR
   go_wp2_with (refine zAT rfl 71 _ rfl e rfl 71 l.toArray (0,0) _ HE3.out.heap Tryz.underlying71 rfl HSZ.out ?_)
   refine HWR.out.mono ?_;rintro e4 X4 ⟨rfl,hb4⟩
   have HA4:=zL8 (HA3.out.below hb4)
   have HE4:=zL8 (HE3.out.below hb4)
   clear hb4 k7 k9 hel HWR
   have k9:X4.cell? ⟨e,9,none⟩=some (.slice ot cq.tx.length ct):=(HE4.out.cell 9).trans HT9.out
   have hel:=HE4.out.lt
   by_cases hw:cq.wrC=true
   ·have HEQ:Hid (((cq.nm==114||cq.wrC)&&zDC cq.tx)=(cq.tx.take 8==[46,103,97,108,108,101,121,45])):=zL8 (by simp[hw,zDC])
    have hbp:Below X4.heap.size X4 (X4.alloc (.cells #[.int .u8 46,.int .u8 103,.int .u8 97,.int .u8 108,.int .u8 108,.int .u8 101,.int .u8 121,.int .u8 45] 5 (8,9))):=(zL9 _ _).alloc (zMA _) _
    have HPX:=zL8 (zDT (w:=X4.alloc (.cells #[.int .u8 46,.int .u8 103,.int .u8 97,.int .u8 108,.int .u8 108,.int .u8 101,.int .u8 121,.int .u8 45] 5 (8,9))) (ca:=ct) (cb:=8) (U:=[46,103,97,108,108,101,121,45]) (HTI.out (HA4.out.below hbp).B) (zJt X4 rfl (8,9)) HRV0.out.tl (by decide) HTZ.out (by decide) HTC.out)
    have HA5:=zL8 (HA4.out.below hbp)
    have HE5:=zL8 (HE4.out.below hbp)
    obtain⟨tb,htb⟩: ∃tb,(cq.tx.take 8==[46,103,97,108,108,101,121,45])=tb:=⟨_,rfl⟩
    rw[htb]at HEQ
    have hl8:([46,103,97,108,108,101,121,45]:List Nat).length=8:=rfl
    rw[hl8,htb]at HPX
    rw[hw]
    clear hbp h114 hw htb hl8
    have hcvb:(convert 46 46 (.slice (some ⟨X4.heap.size,0,none⟩) 8 8)).run Tryz.prog (X4.alloc (.cells #[.int .u8 46,.int .u8 103,.int .u8 97,.int .u8 108,.int .u8 108,.int .u8 101,.int .u8 121,.int .u8 45] 5))= .ok (.slice (some ⟨X4.heap.size,0,none⟩) 8 8) (X4.alloc (.cells #[.int .u8 46,.int .u8 103,.int .u8 97,.int .u8 108,.int .u8 108,.int .u8 101,.int .u8 121,.int .u8 45] 5 (8,9))):=Lib.run_convert_bytes_const X4 _ _ _ 8 8 Tryz.underlying46 Tryz.underlying5
    go_wp2_with fail
    refine HPX.out.mono ?_;rintro e5 X5 ⟨rfl,rfl⟩
    go_wp2_with fail
    go_meet
    exact⟨by first|rw[HEQ.out]|exact HEQ.out.symm|simpa using HEQ.out.symm,HA5.out,HE5.out⟩
   ·have hw':cq.wrC=false:=by simpa using hw
    have HEQ:Hid (((cq.nm==114||cq.wrC)&&zDC cq.tx)=false):=zL8 (by simp[hw',h114])
    rw[hw']
    clear h114 hw hw'
    go_wp2_with fail
    go_meet
    exact⟨by first|rw[HEQ.out]|exact HEQ.out.symm|simpa using HEQ.out.symm,HA4.out,HE4.out⟩
 case rest=>
 obtain⟨hx,ha,he⟩:=hcut
 subst hx
 have HA4:=zL8 ha
 have HE4:=zL8 he
 rename World=>X4
 clear ha he HA3 HE3
 by_cases htm:((cq.nm==114||cq.wrC)&&zDC cq.tx)=true
 case pos=>
  have HRB:Hid (zCR rs=none):=zL8 (HPN.out (b:=false) (fun _=>by rw[p1c,if_neg];simp only[Rq.low,htm,Bool.not_true,Bool.and_false];simp) rfl)
  rw[htm]
  clear htm
  have b0:=HA4.out.F.b0
  have HFC:=zL8 (fun e=>HFX.out (e:=e) b0 HA4.out.B)
  go_wp2_with fail
  refine(HFC.out _).mono ?_;rintro en wq ⟨rfl,hbq⟩
  have HAQ:=zL8 (HA4.out.below hbq)
  have p0:=HAQ.out.F.pr.c0
  have p1:=HAQ.out.F.pr.c1
  have p2:=HAQ.out.F.pr.c2
  have p3:=HAQ.out.F.pr.c3
  have pl:=HAQ.out.F.pr.lt
  have pz:=HAQ.out.F.pr.fz
  clear hbq b0 HFC
  go_wp2_with fail
  rw[Exit.noGoto_ret]
  refine zAn (p:=4) (q:=5) (r:=6) Tryz.results26 rfl rfl rfl rfl (HAQ.out.F.pr.put (.slice none 0 0) (.slice none 0 0) (.slice none 0 0) false) ⟨RzR.bad HRB.out (by decide),?_⟩
  rw[HCZ.out]
  exact(((HAQ.out.B.setCell (p:=⟨c+1,0,none⟩) (by show c≤c+1;omega) _).setCell (p:=⟨c+1,1,none⟩) (by show c≤c+1;omega) _).setCell (p:=⟨c+1,2,none⟩) (by show c≤c+1;omega) _).setCell (p:=⟨c+1,3,none⟩) (by show c≤c+1;omega) _
 have htm':((cq.nm==114||cq.wrC)&&zDC cq.tx)=false:=by simpa using htm
 have HLOW:Hid (cq.low i=true):=zL8 (by simp only[Rq.low,htm',HOK.out];simp;omega)
 rw[htm']
 clear htm htm' HOK
 go_upto_region 15 with fail
 have d0:=HA4.out.F.qr.c0
 have hdl:=HA4.out.F.qr.lt
 have hel:=HE4.out.lt
 have HRE:=zL8 HE4.out.row2
 have hbd:Below X4.heap.size X4 X4.drew:=(zL9 _ _).drew
 have HCL:Hid (Calls Tryz.prog 62 #[.agg l.toArray] X4.drew fun e w'=>(∃l' u2 u5 u10,e= .returned (.agg l'.toArray)∧zBc l'∧l'[2]?=some u2∧l'[5]?=some u5∧l'[10]?=some u10∧w'.ownsRow X4.drew.heap.size 127 9 u2 nk.n2 nk.s2∧w'.ownsRow X4.drew.heap.size 127 9 u5 nk.n5 nk.s5∧w'.ownsRow X4.drew.heap.size 127 9 u10 nk.n10 nk.s10)∧Below X4.drew.heap.size X4.drew w'):=zL8 (by
  obtain⟨v2,v5,v10,h⟩:=(HRV0.out.below (HW0.out (HA4.out.below hbd).B)).clo
  exact zIn h)
 refine zAA (X:=none) 5 [([0,1,2],3),([],4)] [] (by kernel_rfl) (by kernel_rfl) rfl (fun _ _ _ _ _ h=>h) ?_
 simp only[zAJ,zAC,zAG,zAD,zAB,List.getD_cons_zero,List.getD_cons_succ,List.drop_succ_cons,List.drop_zero]
 go_big_quiet_step (fail)
 go_big_quiet_step (fail)
 go_big_quiet_want
 refine zB0 71 _ rfl e 0 rfl l _ HRE.out hel Tryz.underlying71 rfl HCI.out ?_
 go_big_quiet_on
 simp only[Act.put,List.setIfInBounds_toArray,List.set_cons_succ,List.set_cons_zero]
 refine wpQuiet_nil ?_
 have HAD:=zL8 (HA4.out.below hbd)
 have HED:=zL8 (HE4.out.below hbd)
 have HLT4:Hid (mp+1≤X4.drew.heap.size):=zL8 HAD.out.F.lt
 clear hbd d0 hdl hel HRE HA4 HE4
 go_wp2_with fail
 refine HCL.out.mono ?_;rintro e5 X5 ⟨⟨l5,u2,u5,u10,rfl,hc5,g2,g5,g10,m2,m5,m10⟩,hb5⟩
 have HC5:=zL8 hc5
 have HB5:=zL8 hb5
 have G5:=zL8 (And.intro g2 (And.intro g5 g10))
 have hba:Below X5.heap.size X5 (X5.alloc (.cells l5.toArray 71)):=(zL9 _ _).alloc (zMA _) _
 have M5:=zL8 (And.intro (zAQ (zAH m2 HLT4.out) (.below hba)) (And.intro (zAQ (zAH m5 HLT4.out) (.below hba)) (zAQ (zAH m10 HLT4.out) (.below hba))))
 have HA5:=zL8 (HAD.out.below hb5)
 have HE5:=zL8 (HED.out.below hb5)
 have HA6:=zL8 (HA5.out.below hba)
 have HE6:=zL8 (HE5.out.below hba)
 clear hc5 hb5 HAD HED HCL g2 g5 g10 m2 m5 m10 hba HA5 HE5
 dsimp only
 go_wp2_with fail
 refine⟨zAP.of_below HB5.out,?_⟩
 repeat (go_big_quiet_step (fail))
 refine wpQuiet_nil ?_
 go_wp2_with (refine zB7 rfl _ rfl rfl HC5.out ?_)
 refine⟨zA5 _ _,?_⟩
 repeat (go_big_quiet_step (fail))
 refine wpQuiet_nil ?_
 obtain⟨xs,hxo,hxc⟩:=HA6.out.L.cm
 have hkl:(ks.take i).length=i:=by rw[List.length_take,HKN.out];omega
 rw[hkl]at hxo
 have HXO:=zL8 hxo
 have HXC:=zL8 hxc
 have HKL:=zL8 hkl
 have h4k:i<4096:=by omega
 have H4K:=zL8 h4k
 clear hxo hxc hkl h4k
 go_wp2_with (at_builtin;refine zAN zK8 rfl _ _ rfl (mp+1) (n:=i) (m:=1) (xs:=xs) (news:=l5) rfl HXO.out rfl (Src.new X5 l5 _ _ _) (by rw[HC5.out.len]) HC5.out.one (by have:=H4K.out;unfold maxLen;omega) (by have:=H4K.out;omega) (by have:=HA6.out.F.lt;omega) ?_)
 intro v7 X7 ho7 hg7 hr7
 obtain⟨o7,k7,rfl⟩:=zAI ho7
 have hst:zCl 71 (X5.alloc (.cells l5.toArray 71)) X7:=zCl.grown HXO.out hg7
 have hlt6:=HA6.out.F.lt
 have hb7:Below (mp+1) (X5.alloc (.cells l5.toArray 71)) X7:=(zL9 _ _).grown hg7 (by omega) (fun k hk=>(World.ownsRow.lt HXO.out k hk).1)
 have HF7:=zL8 (HA6.out.F.over hb7)
 have HB7:=zL8 (HA6.out.B.trans (hb7.mono (by have:=HA6.out.cle;omega)))
 have HL7:Hid (RzL X7 (mp+1) (.slice o7 (i+1) k7) vf (.slice ov s.op.length kvo) (ks.take (i+1)) (zAO (rs.take i) []) s.op):=zL8 ⟨by
  rw[zDH HNK.out]
  exact CmO.snoc HXC.out (by rw[HKL.out];exact HXO.out.1) hst (by rw[HKL.out];exact ho7) HC5.out G5.out.1 G5.out.2.1 G5.out.2.2 M5.out.1 M5.out.2.1 M5.out.2.2,zAc HA6.out.L.fl (by decide) hst,zAc HA6.out.L.op (by decide) hst⟩
 have HE7:=zL8 (HE6.out.block (hg7.block e HE6.out.lt fun hh=>by have:=HEL.out.2 e hh.symm;omega))
 have HVB:Hid (∀k,(Value.slice o7 (i+1) k7).ownBlock=some k→mp<k):=zL8 fun k hk=>(World.ownsRow.lt ho7 k hk).1
 clear hst hb7 ho7 hg7 hr7 HXC HXO HKL HA6 HE6 M5 G5 hlt6
 have d0:=HF7.out.qr.c0
 have dz:=HF7.out.qr.fz 0
 have hdl:=HF7.out.qr.lt
 have HA8:Hid (RzA w (X7.setCell ⟨d,0,none⟩ (.slice o7 (i+1) k7)) c g d mp (.slice (some ⟨nb,no,none⟩) n cap) (.slice o7 (i+1) k7) vf (.slice ov s.op.length kvo) n q (s.to.set i (-1)) s.la (ks.take (i+1)) (zAO (rs.take i) []) s.op):=zL8 ⟨HF7.out.setC _,HL7.out.kb (Kb.set (by have:=HF7.out.o3;omega) _ _),HB7.out.setCell (p:=⟨d,0,none⟩) (by have:=HF7.out.o1;have:=HF7.out.o2;show c≤d;omega) _⟩
 have HE8:=zL8 (zAp HE7.out (show e≠d by have:=HF7.out.o3;have:=HEL.out.1;omega) 0 (.slice o7 (i+1) k7))
 go_upto_region 16 with fail
 obtain⟨X8,hX⟩: ∃X,X7.setCell ⟨d,0,none⟩ (.slice o7 (i+1) k7)=X:=⟨_,rfl⟩
 rw[hX]at HA8 HE8 ⊢
 clear hX d0 dz hdl HF7 HL7 HB7 HE7
 have k7':X8.cell? ⟨e,7,none⟩=some (.int .u8 (cq.nm:Nat)):=(HE8.out.cell 7).trans HRV0.out.nm
 have hel:=HE8.out.lt
 go_cut [85] (fun x wc=>x= .int .u8 (cq.nm:Nat)∧X8=wc)
 case first=>
  go_wp2_with fail
  go_meet
  exact⟨rfl,rfl⟩
 case rest=>
 obtain⟨hx,hxw⟩:=hcut
 subst hx
 subst hxw
 clear k7' hel
 apply_assumption
 go_cut [5,6,10] (fun e5 e6 ov' wc=>e5= .int .i64 0∧e6= .int .i64 0∧ ∃s',Hid (p1c i cq s=some s')∧ ∃o k,ov'= .slice o s'.op.length k∧RzA w wc c g d mp (.slice (some ⟨nb,no,none⟩) n cap) (.slice o7 (i+1) k7) vf (.slice o s'.op.length k) n q s'.to s'.la (ks.take (i+1)) (zAO (rs.take i) []) s'.op∧CmB wc e l)
 case first=>
  have hop:X8.ownsRow (mp+1) 3 1 (.slice ov s.op.length kvo) s.op.length ((s.op.reverse.map fun j:Nat=>(j:Int)).map (.int .i64)):=by
   have h:=HA8.out.L.op
   unfold Ins at h
   rwa[show(s.op.reverse.map fun j:Nat=>(j:Int)).length=s.op.length by simp]at h
  have HOP:=zL8 hop
  clear hop
  by_cases h123:cq.nm=123
  ·have q1:((cq.nm:Int)==123)=true:=by rw[beq_iff_eq];omega
   by_cases h64:s.op.length=64
   ·have q2:((s.op.length:Int)==64)=true:=by rw[beq_iff_eq];omega
    have HRB:Hid (zCR rs=none):=zL8 (HPN.out (b:=false) (fun _=>by rw[p1c,if_pos HLOW.out,if_pos h123,if_pos h64]) rfl)
    clear h123 h64
    have b0:=HA8.out.F.b0
    have HFC:=zL8 (fun e=>HFX.out (e:=e) b0 HA8.out.B)
    go_wp2_with fail
    refine(HFC.out _).mono ?_;rintro en wq ⟨rfl,hbq⟩
    have HAQ:=zL8 (HA8.out.below hbq)
    have p0:=HAQ.out.F.pr.c0
    have p1:=HAQ.out.F.pr.c1
    have p2:=HAQ.out.F.pr.c2
    have p3:=HAQ.out.F.pr.c3
    have pl:=HAQ.out.F.pr.lt
    have pz:=HAQ.out.F.pr.fz
    clear hbq b0 HFC
    go_wp2_with fail
    rw[Exit.noGoto_ret]
    refine zAn (p:=4) (q:=5) (r:=6) Tryz.results26 rfl rfl rfl rfl (HAQ.out.F.pr.put (.slice none 0 0) (.slice none 0 0) (.slice none 0 0) false) ⟨RzR.bad HRB.out (by decide),?_⟩
    rw[HCZ.out]
    exact(((HAQ.out.B.setCell (p:=⟨c+1,0,none⟩) (by show c≤c+1;omega) _).setCell (p:=⟨c+1,1,none⟩) (by show c≤c+1;omega) _).setCell (p:=⟨c+1,2,none⟩) (by show c≤c+1;omega) _).setCell (p:=⟨c+1,3,none⟩) (by show c≤c+1;omega) _
   ·have q2:((s.op.length:Int)==64)=false:=by simp;omega
    have HPC:Hid (p1c i cq s=some ⟨i::s.op,s.la,s.to.set i (-1)⟩):=zL8 (by rw[p1c,if_pos HLOW.out,if_pos h123,if_neg h64])
    have hba:Below X8.heap.size X8 (X8.alloc (.cells #[.int .i64 (i:Nat)] 3)):=(zL9 _ _).alloc (zMA _) _
    have HA9:=zL8 (HA8.out.below hba)
    have HE9:=zL8 (HE8.out.below hba)
    have HO9:=zL8 (zAQ HOP.out (.below hba))
    have HLE:=zL8 (show s.op.length≤64 from HBD.out.2.1)
    clear hba h123 h64
    go_wp2_with (at_builtin;refine zAN zEO rfl _ _ rfl (mp+1) (n:=s.op.length) (m:=1) (news:=[.int .i64 (i:Nat)]) rfl HO9.out rfl (Src.new X8 [.int .i64 (i:Nat)] _ _ _) rfl (by simp[Value.oneCell']) (by have:=HLE.out;unfold maxLen;omega) (by have:=HLE.out;omega) (by have:=HA9.out.F.lt;omega) ?_)
    intro v9 X9 ho9 hg9 hr9
    obtain⟨o9,k9,rfl⟩:=zAI ho9
    have hst:zCl 3 (X8.alloc (.cells #[.int .i64 (i:Nat)] 3)) X9:=zCl.grown HO9.out hg9
    have hlt6:=HA9.out.F.lt
    have hb9:Below (mp+1) (X8.alloc (.cells #[.int .i64 (i:Nat)] 3)) X9:=(zL9 _ _).grown hg9 (by omega) (fun k hk=>(World.ownsRow.lt HO9.out k hk).1)
    have HAX:Hid (RzA w X9 c g d mp (.slice (some ⟨nb,no,none⟩) n cap) (.slice o7 (i+1) k7) vf (.slice o9 (s.op.length+1) k9) n q (s.to.set i (-1)) s.la (ks.take (i+1)) (zAO (rs.take i) []) (i::s.op)):=zL8 ⟨HA9.out.F.over hb9,⟨HA9.out.L.cm.stay hst (by decide) (by decide),zAc HA9.out.L.fl (by decide) hst,by
     unfold Ins
     rw[show((i::s.op).reverse.map fun j:Nat=>(j:Int)).length=s.op.length+1 by simp,show((i::s.op).reverse.map fun j:Nat=>(j:Int)).map (Value.int .i64)=(s.op.reverse.map fun j:Nat=>(j:Int)).map (Value.int .i64)++[.int .i64 (i:Nat)]by simp]
     first
      |exact ho9
      |(rw[List.map_map,List.map_reverse];exact ho9)⟩,HA9.out.B.trans (hb9.mono (by have:=HA9.out.cle;omega))⟩
    have HEX:=zL8 (HE9.out.block (hst e _ _ (by decide) HE9.out.heap))
    clear hst hb9 ho9 hg9 hr9 hlt6 HA9 HE9 HO9
    go_wp2_with fail
    go_meet
    exact⟨rfl,rfl,_,HPC,o9,k9,rfl,HAX.out,HEX.out⟩
  ·have q1:((cq.nm:Int)==123)=false:=by simp;omega
   by_cases h125:cq.nm=125
   ·have q2:((cq.nm:Int)==125)=true:=by rw[beq_iff_eq];omega
    rcases zJr s.op with hso|⟨j,op,hso⟩
    ·have HRB:Hid (zCR rs=none):=zL8 (HPN.out (b:=false) (fun _=>by rw[p1c,if_pos HLOW.out,if_neg h123,if_pos h125,hso]) rfl)
     rw[show s.op.length=0 by rw[hso];rfl]at HA8 ⊢
     clear h123 h125 HOP
     have b0:=HA8.out.F.b0
     have HFC:=zL8 (fun e=>HFX.out (e:=e) b0 HA8.out.B)
     go_wp2_with fail
     refine(HFC.out _).mono ?_;rintro en wq ⟨rfl,hbq⟩
     have HAQ:=zL8 (HA8.out.below hbq)
     have p0:=HAQ.out.F.pr.c0
     have p1:=HAQ.out.F.pr.c1
     have p2:=HAQ.out.F.pr.c2
     have p3:=HAQ.out.F.pr.c3
     have pl:=HAQ.out.F.pr.lt
     have pz:=HAQ.out.F.pr.fz
     clear hbq b0 HFC
     go_wp2_with fail
     rw[Exit.noGoto_ret]
     refine zAn (p:=4) (q:=5) (r:=6) Tryz.results26 rfl rfl rfl rfl (HAQ.out.F.pr.put (.slice none 0 0) (.slice none 0 0) (.slice none 0 0) false) ⟨RzR.bad HRB.out (by decide),?_⟩
     rw[HCZ.out]
     exact(((HAQ.out.B.setCell (p:=⟨c+1,0,none⟩) (by show c≤c+1;omega) _).setCell (p:=⟨c+1,1,none⟩) (by show c≤c+1;omega) _).setCell (p:=⟨c+1,2,none⟩) (by show c≤c+1;omega) _).setCell (p:=⟨c+1,3,none⟩) (by show c≤c+1;omega) _
    ·have HPC:Hid (p1c i cq s=some ⟨op,s.la,(s.to.set i (-1)).set j ((i:Int)+1)⟩):=zL8 (by rw[p1c,if_pos HLOW.out,if_neg h123,if_pos h125,hso])
     have hji:j<i:=HBD.out.2.2 j (by rw[hso];simp)
     have hol:s.op.length=op.length+1:=by rw[hso];rfl
     have hmm:((s.op.reverse.map fun j:Nat=>(j:Int)).map (Value.int .i64))=(op.reverse.map fun j:Nat=>(j:Int)).map (Value.int .i64)++[.int .i64 (j:Nat)]:=by rw[hso];simp
     rw[hol,hmm]at HOP
     rw[hol]at HA8 ⊢
     have HJI:=zL8 hji
     have hm1:((op.length+1:Nat):Int) - 1=(op.length:Int):=by omega
     have hq0:(((op.length+1:Nat):Int)==0)=false:=by simp;omega
     have hm2:(op.length:Int)+1 - 1=(op.length:Int):=by omega
     have hm3:(op.length:Int)<(op.length:Int)+1:=by omega
     have hm4:decide ((op.length:Int)<(op.length:Int)+1)=true:=zMJ hm3
     have hm5:decide ((0:Int)≤(op.length:Int))=true:=zMJ (by omega)
     have hm6:op.length<op.length+1:=by omega
     have hm7:(op.length:Int)≤64:=by have:=HBD.out.2.1;omega
     obtain⟨_,ob,rfl,hobl,hobc,_⟩:=zAZ HOP.out (by omega)
     have hkv:(op.length:Int)≤(kvo:Int):=by
      rcases HOP.out.2 with ⟨h,_⟩|⟨g2,cap2,cur,h,_,_,hnc,_⟩
      ·cases h
      ·cases h
       omega
     have hcell:X8.cell? ⟨ob,op.length,none⟩=some (.int .i64 (j:Nat)):=by
      obtain⟨u,hu,hcu⟩:=hobc op.length (by omega)
      rw[zMU (by simp)]at hu
      simp at hu
      rw[hcu,←hu]
     have d1:=HA8.out.F.qr.c1
     have hdl:=HA8.out.F.qr.lt
     obtain⟨gj,g0⟩:=HA8.out.F.at_ (show j<n by omega)
     have gz:=zMY HA8.out.F.tr j
     have hgl:g<X8.heap.size:=zMf _ _ g0
     have hjn:(j:Int)<(n:Int):=by omega
     have HOW:=zL8 HOP.out
     clear h123 h125 hji hso hol hmm hobc HOP
     go_upto_region 24 with fail
     refine zAA (X:=none) 11 [] [0,1,2,3,4,5,6,7,8,9,10] (by kernel_rfl) (by kernel_rfl) rfl (fun _ _ _ _ _ h=>h) ?_
     simp only[zAJ,zAC,zAD,zAB,List.getD_cons_zero,List.getD_cons_succ,List.drop_succ_cons,List.drop_zero]
     repeat (go_big_quiet_step (fail))
     refine wpQuiet_nil ?_
     have HA9:=zL8 ((HA8.out.setTo j ((i:Int)+1)).below ((zL9 _ _).drew))
     have HE9:=zL8 ((zAp HE8.out (show e≠g by have:=HA8.out.F.o2;have:=HA8.out.F.o3;have:=HEL.out.1;omega) j (.int .i64 ((i:Int)+1))).below ((zL9 _ _).drew))
     have HO9:=zL8 (zAQ (zAQ HOW.out (Kb.set (show g<mp+1 by have:=HA8.out.F.o2;have:=HA8.out.F.o3;omega) j (.int .i64 ((i:Int)+1)))) (.below ((zL9 _ _).drew)))
     clear d1 HOW
     go_upto_region 25 with fail
     obtain⟨X9,hX⟩: ∃X,(X8.setCell ⟨g,j,none⟩ (.int .i64 ((i:Int)+1))).drew=X:=⟨_,rfl⟩
     rw[hX]at HA9 HE9 HO9 ⊢
     clear hX hcell hdl g0 gz hgl hobl
     have HAX:Hid (RzA w X9 c g d mp (.slice (some ⟨nb,no,none⟩) n cap) (.slice o7 (i+1) k7) vf (.slice (some ⟨ob,0,none⟩) op.length kvo) n q ((s.to.set i (-1)).set j ((i:Int)+1)) s.la (ks.take (i+1)) (zAO (rs.take i) []) op):=zL8 ⟨HA9.out.F,⟨HA9.out.L.cm,HA9.out.L.fl,by
      have h:=ownsRow_pop (n:=op.length) (by simp) HO9.out
      unfold Ins
      rw[show(op.reverse.map fun j:Nat=>(j:Int)).length=op.length by simp]
      exact h⟩,HA9.out.B⟩
     go_wp2_with fail
     go_meet
     exact⟨rfl,rfl,_,HPC,_,_,rfl,HAX.out,HE9.out⟩
   ·have q2:((cq.nm:Int)==125)=false:=by simp;omega
    by_cases h58:cq.nm=58
    ·have q3:((cq.nm:Int)==58)=true:=by rw[beq_iff_eq];omega
     have k9:X8.cell? ⟨e,9,none⟩=some (.slice ot cq.tx.length ct):=(HE8.out.cell 9).trans HT9.out
     have hel:=HE8.out.lt
     have hcv:=zBP (cap:=ct) (HTI.out HA8.out.B)
     rw[show strOfNums (cq.tx.map fun b:Nat=>(b:Int))=zBN cq.tx from rfl]at hcv
     cases hfs:zBM cq.tx s.la with
     |some m=>
      have HRB:Hid (zCR rs=none):=zL8 (HPN.out (b:=false) (fun _=>by rw[p1c,if_pos HLOW.out,if_neg h123,if_neg h125,if_pos h58,hfs]) rfl)
      clear h123 h125 h58
      go_wp2_with (refine zBf rfl _ _ rfl rfl rfl HA8.out.F.lm HRV0.out.tl ?_;rw[hfs];dsimp only)
      clear hfs k9 hel hcv
      have b0:=HA8.out.F.b0
      have HFC:=zL8 (fun e=>HFX.out (e:=e) b0 HA8.out.B)
      go_wp2_with fail
      refine(HFC.out _).mono ?_;rintro en wq ⟨rfl,hbq⟩
      have HAQ:=zL8 (HA8.out.below hbq)
      have p0:=HAQ.out.F.pr.c0
      have p1:=HAQ.out.F.pr.c1
      have p2:=HAQ.out.F.pr.c2
      have p3:=HAQ.out.F.pr.c3
      have pl:=HAQ.out.F.pr.lt
      have pz:=HAQ.out.F.pr.fz
      clear hbq b0 HFC
      go_wp2_with fail
      rw[Exit.noGoto_ret]
      refine zAn (p:=4) (q:=5) (r:=6) Tryz.results26 rfl rfl rfl rfl (HAQ.out.F.pr.put (.slice none 0 0) (.slice none 0 0) (.slice none 0 0) false) ⟨RzR.bad HRB.out (by decide),?_⟩
      rw[HCZ.out]
      exact(((HAQ.out.B.setCell (p:=⟨c+1,0,none⟩) (by show c≤c+1;omega) _).setCell (p:=⟨c+1,1,none⟩) (by show c≤c+1;omega) _).setCell (p:=⟨c+1,2,none⟩) (by show c≤c+1;omega) _).setCell (p:=⟨c+1,3,none⟩) (by show c≤c+1;omega) _
     |none=>
      have HPC:Hid (p1c i cq s=some ⟨s.op,s.la++[(cq.tx,i+1)],s.to.set i (-1)⟩):=zL8 (by rw[p1c,if_pos HLOW.out,if_neg h123,if_neg h125,if_pos h58,hfs])
      have HFS:=zL8 hfs
      clear h123 h125 h58 hfs
      go_upto_region 30 with (refine zBf rfl _ _ rfl rfl rfl HA8.out.F.lm HRV0.out.tl ?_;rw[HFS.out];dsimp only)
      have HA9:=zL8 (HA8.out.ins HRV0.out.tl (t:=cq.tx) (i+1))
      have HE9:=zL8 (HE8.out.block (w':=zHM X8 mp cq.tx (i+1) s.la) (zCF HA8.out.F.lm (by have:=HEL.out.1;omega)))
      go_wp2_with (refine zFN (kk:=i+1) rfl _ _ _ rfl rfl rfl rfl HA8.out.F.lm HRV0.out.tl HFS.out ?_)
      go_meet
      exact⟨rfl,rfl,_,HPC,_,_,rfl,HA9.out,HE9.out⟩
    ·have q3:((cq.nm:Int)==58)=false:=by simp;omega
     have HPC:Hid (p1c i cq s=some ⟨s.op,s.la,s.to.set i (-1)⟩):=zL8 (by rw[p1c,if_pos HLOW.out,if_neg h123,if_neg h125,if_neg h58])
     clear h123 h125 h58
     go_wp2_with fail
     go_meet
     exact⟨rfl,rfl,_,HPC,_,_,rfl,HA8.out,HE8.out⟩
 case rest=>
 obtain⟨h5,h6,s',HPC,o2,k2,ho,ha,he⟩:=hcut
 subst h5
 subst h6
 subst ho
 have HA9:=zL8 ha
 have HE9:=zL8 he
 rename World=>X9
 clear ha he HA8 HE8
 have HNX:Hid (p1S (rs.take (i+1)) 0 ⟨[],[],List.replicate rs.length 0⟩=some s'):=zL8 ((zGL HP1.out HCQ.out).trans HPC.out)
 have HBN:Hid (i+1≤4096∧s'.op.length≤64∧ ∀j∈s'.op,j<i+1):=zL8 ⟨by omega,zH8 HPC.out HBD.out.2.1 HBD.out.2.2⟩
 have HFS:Hid (zAO (rs.take (i+1)) []=if cq.wrC&& !((zAO (rs.take i) []).contains cq.tx)then zAO (rs.take i) []++[cq.tx]else zAO (rs.take i) []):=zL8 (by rw[zDH HCQ.out,zCW])
 have HWR:=zL8 (zDR (w:=X9) HRV0.out.cl HRV0.out.nm HRV0.out.wr)
 have HWC:Hid ((cq.nm==119||(cq.nm==115&&cq.wr))=cq.wrC):=zL8 rfl
 rw[HWC.out]at HWR
 go_wp2_with (refine wpList_load_row rfl 71 _ rfl e rfl 71 l.toArray (0,0) _ HE9.out.heap Tryz.underlying71 rfl HSZ.out ?_)
 refine HWR.out.mono ?_;rintro e10 X10 ⟨rfl,hb10⟩
 have HA10:=zL8 (HA9.out.below hb10)
 have HE10:=zL8 (HE9.out.below hb10)
 clear hb10 HWR HA9 HE9
 by_cases hw:cq.wrC=true
 case neg=>
  have hw':cq.wrC=false:=by simpa using hw
  have HFE:Hid (zAO (rs.take (i+1)) []=zAO (rs.take i) []):=zL8 (by rw[HFS.out,hw'];rfl)
  rw[hw']
  clear hw hw'
  go_wp2_with fail
  go_roundg (n - (i+1))
  case measure=>have:=HGK.out;omega
  case rel=>exact⟨rfl,rfl,i+1,s',_,_,by go_num,rfl,by omega,HNX,HBN,by rw[HFE.out];exact HA10.out⟩
 have HWT:=zL8 hw
 rw[hw]
 clear hw
 obtain⟨of_,kf,hvf⟩:=zAI HA10.out.L.fl
 subst hvf
 have HFL:=zL8 HA10.out.L.fl
 have hfl:(zAO (rs.take i) []).length≤4096:=by
  have h1:=zBm (rs.take i) []
  rw[List.length_nil,List.length_take,Nat.zero_add]at h1
  have:=HBD.out.1
  omega
 have HFLN:=zL8 hfl
 have HFB:Hid (∀a∈zAO (rs.take i) [],∀b∈a,b<256):=zL8 fun a ha b hb=>by
  rcases zCt _ _ _ ha with h|⟨c',h1,rfl⟩
  ·simp at h
  ·obtain⟨j,hj⟩:=List.mem_iff_getElem?.1 (List.mem_of_mem_take h1)
   have hjl:=(zMF.1 hj).1
   rw[HRN.out]at hjl
   exact(HV0.out j _ c' _ (zMP (by rw[HLN.out];exact hjl)) hj (zMP (by rw[HKN.out];exact hjl))).tl b hb
 obtain⟨fs,hfse⟩: ∃fs,zAO (rs.take i) []=fs:=⟨_,rfl⟩
 rw[hfse]at HFL HFLN HFB HFS HA10 hfl
 have HFSE:=zL8 hfse
 clear hfse
 have HCT:=zL8 (zEP (t:=cq.tx) HFL.out HFB.out HRV0.out.tl (by omega))
 have c2:=HA10.out.F.qr.c2
 have hdl:=HA10.out.F.qr.lt
 have k9:X10.cell? ⟨e,9,none⟩=some (.slice ot cq.tx.length ct):=(HE10.out.cell 9).trans HT9.out
 have hel:=HE10.out.lt
 have hcv:=zBP (cap:=ct) (HTI.out HA10.out.B)
 rw[show strOfNums (cq.tx.map fun b:Nat=>(b:Int))=zBN cq.tx from rfl]at hcv
 go_wp2_with fail
 refine HCT.out.mono ?_;rintro e11 X11 ⟨rfl,rfl⟩
 by_cases hct:fs.contains cq.tx=true
 case pos=>
  have HFE:Hid (zAO (rs.take (i+1)) []=fs):=zL8 (by rw[HFS.out,hct];simp)
  rw[hct]
  clear hct
  go_wp2_with fail
  go_roundg (n - (i+1))
  case measure=>have:=HGK.out;omega
  case rel=>exact⟨rfl,rfl,i+1,s',_,_,by go_num,rfl,by omega,HNX,HBN,by rw[HFE.out];exact HA10.out⟩
 have hct':fs.contains cq.tx=false:=by simpa using hct
 have HFE:Hid (zAO (rs.take (i+1)) []=fs++[cq.tx]):=zL8 (by rw[HFS.out,hct',HWT.out];rfl)
 rw[hct']
 clear hct hct' HCT
 have hba:Below X10.heap.size X10 (X10.alloc (.cells #[.string (zBN cq.tx)] 9)):=(zL9 _ _).alloc (zMA _) _
 have HA11:=zL8 (HA10.out.below hba)
 have HO11:=zL8 (zAQ HFL.out (.below hba))
 clear hba
 go_wp2_with (at_builtin;refine zAN zJb rfl _ _ rfl (mp+1) (n:=fs.length) (m:=1) (news:=[.string (zBN cq.tx)]) rfl HO11.out rfl (Src.new X10 [.string (zBN cq.tx)] _ _ _) rfl (by simp[Value.oneCell']) (by have:=HFLN.out;unfold maxLen;omega) (by have:=HFLN.out;omega) (by have:=HA11.out.F.lt;omega) ?_)
 intro v12 X12 ho12 hg12 hr12
 obtain⟨o12,k12,rfl⟩:=zAI ho12
 have hst:zCl 9 (X10.alloc (.cells #[.string (zBN cq.tx)] 9)) X12:=zCl.grown HO11.out hg12
 have hlt6:=HA11.out.F.lt
 have hb12:Below (mp+1) (X10.alloc (.cells #[.string (zBN cq.tx)] 9)) X12:=(zL9 _ _).grown hg12 (by omega) (fun k hk=>(World.ownsRow.lt HO11.out k hk).1)
 have HF12:=zL8 (HA11.out.F.over hb12)
 have HB12:=zL8 (HA11.out.B.trans (hb12.mono (by have:=HA11.out.cle;omega)))
 have HL12:Hid (RzL X12 (mp+1) (.slice o7 (i+1) k7) (.slice o12 (fs.length+1) k12) (.slice o2 s'.op.length k2) (ks.take (i+1)) (fs++[cq.tx]) s'.op):=zL8 ⟨HA11.out.L.cm.stay hst (by decide) (by decide),by
  rw[zMS,List.map_append]
  exact ho12,zAc HA11.out.L.op (by decide) hst⟩
 clear hst hb12 ho12 hg12 hr12 HO11 HA11 c2 hdl k9 hel hcv hlt6
 have c2:=HF12.out.qr.c2
 have dz:=HF12.out.qr.fz 2
 have hdl:=HF12.out.qr.lt
 have HA13:Hid (RzA w (X12.setCell ⟨d,2,none⟩ (.slice o12 (fs.length+1) k12)) c g d mp (.slice (some ⟨nb,no,none⟩) n cap) (.slice o7 (i+1) k7) (.slice o12 (fs.length+1) k12) (.slice o2 s'.op.length k2) n q s'.to s'.la (ks.take (i+1)) (fs++[cq.tx]) s'.op):=zL8 ⟨HF12.out.setF _,HL12.out.kb (Kb.set (by have:=HF12.out.o3;omega) _ _),HB12.out.setCell (p:=⟨d,2,none⟩) (by have:=HF12.out.o1;have:=HF12.out.o2;show c≤d;omega) _⟩
 go_wp2_with fail
 go_roundg (n - (i+1))
 case measure=>have:=HGK.out;omega
 case rel=>exact⟨rfl,rfl,i+1,s',_,_,by go_num,rfl,by omega,HNX,HBN,by rw[HFE.out];exact HA13.out⟩
end
end
section
open Go.RowKit
structure RrC (w:World) (l:List Value) (c:Rq):Prop where
 cl:zBc l
 nm:l[7]?=some (.int .u8 (c.nm:Nat))
 nl:c.nm<256
 at_: ∃a:Int,l[8]?=some (.int .i64 a)
 wr:l[15]?=some (.bool c.wr)
 tx: ∃o cap,l[9]?=some (.slice o c.tx.length cap)∧zBU w o c.tx∧c.tx.length≤4294967296∧c.tx.length≤cap
 tl: ∀b∈c.tx,b<256
 sh: ∀W,Below w.heap.size w W→Calls Tryz.prog 162 #[.agg l.toArray] W fun e W'=>e= .returned (.bool c.ok)∧Below W.heap.size W W'
structure RrS (w:World) (o:Option Addr) (n:Nat) (ls:List (List Value)) (rs:List Rq):Prop where
 ll:ls.length=n
 rl:rs.length=n
 m:CmS w o ls
 v: ∀(i:Nat) (l:List Value) (c:Rq),ls[i]?=some l→rs[i]?=some c→RrC w l c
section
variable {w w':World} {o:Option Addr} {n:Nat} {ls:List (List Value)} {rs:List Rq} {l:List Value} {c:Rq}
theorem RrC.below (h:RrC w l c) (hb:Below w.heap.size w w'):RrC w' l c:=
 {h with
  tx:=by obtain⟨o,cap,h1,h2,h3⟩:=h.tx;exact⟨o,cap,h1,zBO h2 hb,h3⟩
  sh:=fun W hW=>h.sh W (hb.trans (hW.mono hb.size)) }
theorem RrS.below (h:RrS w o n ls rs) (hb:Below w.heap.size w w'):RrS w' o n ls rs:=⟨h.ll,h.rl,h.m.below hb,fun i l c h1 h2=>(h.v i l c h1 h2).below hb⟩
theorem RrS.take (h:RrS w o n ls rs) {k:Nat} (hk:k≤n):RrS w o k (ls.take k) (rs.take k):=
 ⟨by rw[List.length_take,h.ll];omega,by rw[List.length_take,h.rl];omega,fun i l hl=>by
  have hi:=(zMF.1 hl).1
  rw[List.length_take]at hi
  rw[List.getElem?_take,if_pos (by omega)]at hl
  exact h.m i l hl,fun i l c hl hc=>by
  have hi:=(zMF.1 hl).1
  rw[List.length_take]at hi
  rw[List.getElem?_take,if_pos (by omega)]at hl hc
  exact h.v i l c hl hc⟩
theorem RrS.at_ (h:RrS w o n ls rs) {i:Nat} (hi:i<n): ∃l c nb no,ls[i]?=some l∧rs[i]?=some c∧o=some ⟨nb,no,none⟩∧nb<w.heap.size∧w.rangeAt nb (no+i*272) l∧RrC w l c∧w.cell? ⟨nb,no+i*272+7,none⟩=some (.int .u8 (c.nm:Nat)):=by
 obtain⟨l,hl⟩: ∃l,ls[i]?=some l:=⟨_,zMP (by rw[h.ll];exact hi)⟩
 obtain⟨c,hc⟩: ∃c,rs[i]?=some c:=⟨_,zMP (by rw[h.rl];exact hi)⟩
 obtain⟨nb,no,h1,h2,h3⟩:=h.m i l hl
 have hv:=h.v i l c hl hc
 exact⟨l,c,nb,no,hl,hc,h1,h2,h3,hv,h3 7 _ hv.nm⟩
theorem RrS.drop (_h:RrS w o n ls rs) {i:Nat} (_hi:i<n) (hc:rs[i]?=some c):rs.drop i=c::rs.drop (i+1):=by
 obtain⟨h1,h2⟩:=zMF.1 hc
 rw[←h2]
 exact List.drop_eq_getElem_cons h1
theorem zDO (h:RrC w l c):Calls Tryz.prog 134 #[.agg l.toArray] w fun e w'=>e= .returned (.bool c.wrC)∧Below w.heap.size w w':=by
 have hb:=CmB.new h.cl w
 have c7:(w.alloc (.cells l.toArray 71)).cell? ⟨w.heap.size,7,none⟩=some (.int .u8 (c.nm:Nat)):=(hb.cell 7).trans h.nm
 have c15:(w.alloc (.cells l.toArray 71)).cell? ⟨w.heap.size,15,none⟩=some (.bool c.wr):=(hb.cell 15).trans h.wr
 have HB:=zL8 ((zL9 w.heap.size w).alloc (zMA _) (.cells l.toArray 71))
 have hl:=(CmB.new h.cl w).lt
 have HR:Hid (c.wrC=(c.nm==119||(c.nm==115&&c.wr))):=zL8 rfl
 obtain⟨R,hR⟩: ∃R,c.wrC=R:=⟨_,rfl⟩
 rw[hR]at HR ⊢
 generalize c.wr=wr at c15 HR
 generalize c.nm=nm at c7 HR
 clear h hb hR
 go_enter Tryz.func134,Tryz.ntmps134
 go_upto_region 1 with fail
 obtain⟨W,hW⟩: ∃W,w.alloc (.cells l.toArray 71)=W:=⟨_,rfl⟩
 rw[hW]at HB c7 c15 hl ⊢
 clear hW
 obtain⟨b,hbz⟩: ∃b,w.heap.size=b:=⟨_,rfl⟩
 rw[hbz]at c7 c15 hl ⊢
 have HZ:=zL8 hbz
 clear hbz
 by_cases h1:nm=119
 ·subst h1
  go_wp2_with fail
  go_ret
  exact⟨by rw[HR.out];rfl,HB.out⟩
 ·have hq1:((nm:Int)==119)=false:=by simp;omega
  by_cases h2:nm=115
  ·subst h2
   go_wp2_with fail
   go_ret
   exact⟨by rw[HR.out];cases wr<;>rfl,HB.out⟩
  ·have hq2:((nm:Int)==115)=false:=by simp;omega
   go_wp2_with fail
   go_ret
   exact⟨by rw[HR.out];simp[h1,h2],HB.out⟩
theorem zDv {oa:Option Addr} {ca:Nat} {T:List Nat} (ha:zBU w oa T) (hT: ∀b∈T,b<256) (zT:T.length≤4294967296) (hc:T.length≤ca):
  Calls Tryz.prog 163 #[.slice oa T.length ca] w fun e w'=>e= .returned (.bool (zDC T))∧w=w':=by
 have hs:zBN [46,103,97,108,108,101,121,45]=⟨#[46,103,97,108,108,101,121,45]⟩:=rfl
 have hz8:(⟨#[46,103,97,108,108,101,121,45]⟩:ByteArray).size=8:=rfl
 by_cases h:8≤T.length
 ·have hl:(T.take 8).length=8:=by rw[List.length_take];omega
  have ht:zBU w oa (T.take 8):=fun hp=>by
   obtain⟨g,o,h1,h2⟩:=ha (by omega)
   exact⟨g,o,h1,fun j hj=>by
    rw[h2 j (by omega),zMH,zMH,List.getElem?_take,if_pos (by omega)]⟩
  have hcv:=zBP (cap:=ca) ht
  rw[hl,show strOfNums ((T.take 8).map fun b:Nat=>(b:Int))=zBN (T.take 8)from rfl]at hcv
  have hg:(8:Int)≤(T.length:Int):=by omega
  have hg2:(8:Int)≤(ca:Int):=by omega
  by_cases he:T.take 8=[46,103,97,108,108,101,121,45]
  ·have r:zDC T=true:=by simp[zDC,he]
   rw[he,hs]at hcv
   rw[r]
   clear r he ht hl ha hT hs
   go_enter Tryz.func163,Tryz.ntmps163
   go_wp2_with fail
   go_ret
   exact⟨rfl,rfl⟩
  ·have r:zDC T=false:=by simp[zDC,he]
   have hn:=zCa (fun e=>he ((zCA (fun b hb=>hT b (List.mem_of_mem_take hb)) (by decide)).1 (e.trans hs.symm)))
   rw[r]
   clear r he ht hl ha hT hs
   rw[Lib.toList_data ⟨#[46,103,97,108,108,101,121,45]⟩]at hn
   generalize zBN (T.take 8)=x at hcv hn
   go_enter Tryz.func163,Tryz.ntmps163
   go_wp2_with fail
   go_ret
   exact⟨rfl,rfl⟩
 ·have r:zDC T=false:=by
   rw[zDC,List.take_of_length_le (by omega)]
   simp only[beq_eq_false_iff_ne]
   intro e
   rw[e]at h
   exact h (by decide)
  rw[r]
  have hg: ¬(8:Int)≤(T.length:Int):=by omega
  clear ha hT hs r h
  go_enter Tryz.func163,Tryz.ntmps163
  go_wp2_with fail
  go_ret
  exact⟨rfl,rfl⟩
theorem zC0 {cap i:Nat} (h:RrS w o n ls rs) (hi:i<n) (hz:n≤319857928070):
  Calls Tryz.prog 132 #[.slice o n cap,.int .i64 (i:Nat)] w fun e w'=>e= .returned (.int .i64 (zAW (rs.drop i) i 0))∧w=w':=by
 have H:=zL8 h
 have hnz:(n:Int)≤319857928070:=by omega
 obtain⟨R,hR⟩: ∃R,zAW (rs.drop i) i 0=R:=⟨_,rfl⟩
 rw[hR]
 have HR:=zL8 hR
 clear h hR
 go_enter Tryz.func132,Tryz.ntmps132
 go_wp2_with fail
 go_loopg [5,6] (n - i) (fun k ov iv wr=> ∃(j:Nat) (op:Int),ov= .int .i64 op∧iv= .int .i64 (j:Nat)∧k=n - j∧i≤j∧j≤n∧ -(j:Int)≤op∧op≤j∧Hid (zAW (rs.drop j) j op=R)∧w=wr)
 case atStart=>exact⟨i,0,rfl,rfl,rfl,zMA _,by omega,by omega,by omega,HR,rfl⟩
 case round=>
 obtain⟨j,op,rfl,rfl,hg,hij,hjn,ho1,ho2,HC,rfl⟩:=hrel
 have HG:=zL8 hg
 clear hg HR
 by_cases hlt:j<n
 ·have hlt':(j:Int)<(n:Int):=by omega
  obtain⟨l,c,nb,no,hl,hc,rfl,hnb,hrg,hv,c7⟩:=H.out.at_ hlt
  have HD:=zL8 (H.out.drop hlt hc)
  have HC2:Hid ((if zDf c op=0 then(j:Int)else zAW (rs.drop (j+1)) (j+1) (zDf c op))=R):=zL8 (by
   have h:=HC.out
   rwa[HD.out,zAW]at h)
  clear hl hc hrg hv HC
  generalize hnm:c.nm=nm at c7
  by_cases h1:nm=123
  ·subst h1
   have hd:zDf c op=op+1:=by rw[zDf,if_pos hnm]
   rw[hd]at HC2
   clear hd hnm
   by_cases hz0:op+1=0
   ·have q0:(op+1==0)=true:=by rw[beq_iff_eq];exact hz0
    have HE:Hid ((j:Int)=R):=zL8 (by have h:=HC2.out;rwa[if_pos hz0]at h)
    clear hz0
    go_wp2_with fail
    go_ret
    exact⟨by rw[←HE.out];rfl,rfl⟩
   ·have q0:(op+1==0)=false:=by rw[zME];exact hz0
    have HE:Hid (zAW (rs.drop (j+1)) (j+1) (op+1)=R):=zL8 (by have h:=HC2.out;rwa[if_neg hz0]at h)
    clear hz0
    go_wp2_with fail
    go_roundg (n - (j+1))
    case measure=>have:=HG.out;omega
    case rel=>exact⟨j+1,op+1,by go_num,by go_num,rfl,by omega,by omega,by omega,by omega,HE,rfl⟩
  ·have q1:((nm:Int)==123)=false:=by simp;omega
   by_cases h2:nm=125
   ·subst h2
    have hd:zDf c op=op - 1:=by rw[zDf,if_neg (by omega),if_pos hnm]
    rw[hd]at HC2
    clear hd hnm
    by_cases hz0:op - 1=0
    ·have q0:(op - 1==0)=true:=by rw[beq_iff_eq];exact hz0
     have HE:Hid ((j:Int)=R):=zL8 (by have h:=HC2.out;rwa[if_pos hz0]at h)
     clear hz0
     go_wp2_with fail
     go_ret
     exact⟨by rw[←HE.out];rfl,rfl⟩
    ·have q0:(op - 1==0)=false:=by rw[zME];exact hz0
     have HE:Hid (zAW (rs.drop (j+1)) (j+1) (op - 1)=R):=zL8 (by have h:=HC2.out;rwa[if_neg hz0]at h)
     clear hz0
     go_wp2_with fail
     go_roundg (n - (j+1))
     case measure=>have:=HG.out;omega
     case rel=>exact⟨j+1,op - 1,by go_num,by go_num,rfl,by omega,by omega,by omega,by omega,HE,rfl⟩
   ·have q2:((nm:Int)==125)=false:=by simp;omega
    have hd:zDf c op=op:=zCG (by omega) (by omega) op
    rw[hd]at HC2
    clear hd hnm
    by_cases hz0:op=0
    ·have q0:(op==0)=true:=by rw[beq_iff_eq];exact hz0
     have HE:Hid ((j:Int)=R):=zL8 (by have h:=HC2.out;rwa[if_pos hz0]at h)
     clear hz0
     go_wp2_with fail
     go_ret
     exact⟨by rw[←HE.out];rfl,rfl⟩
    ·have q0:(op==0)=false:=by rw[zME];exact hz0
     have HE:Hid (zAW (rs.drop (j+1)) (j+1) op=R):=zL8 (by have h:=HC2.out;rwa[if_neg hz0]at h)
     clear hz0
     go_wp2_with fail
     go_roundg (n - (j+1))
     case measure=>have:=HG.out;omega
     case rel=>exact⟨j+1,op,by go_num,by go_num,rfl,by omega,by omega,by omega,by omega,HE,rfl⟩
 ·have hlt': ¬(j:Int)<(n:Int):=by omega
  have HE:Hid ((-1:Int)=R):=zL8 (by
   have h:=HC.out
   rwa[List.drop_of_length_le (by rw[H.out.rl];omega),zAW]at h)
  go_wp2_with fail
  go_ret
  exact⟨by rw[←HE.out];rfl,rfl⟩
theorem zG0 {cap:Nat} (h:RrS w o n ls rs) (hz:n≤319857928070):
  Calls Tryz.prog 164 #[.slice o n cap] w fun e w'=>e= .returned (.int .i64 (zBK rs 0))∧w=w':=by
 have H:=zL8 h
 have hnz:(n:Int)≤319857928070:=by omega
 obtain⟨R,hR⟩: ∃R,zBK rs 0=R:=⟨_,rfl⟩
 rw[hR]
 have HR:=zL8 hR
 clear h hR
 go_enter Tryz.func164,Tryz.ntmps164
 go_wp2_with fail
 go_loopg [3,4] n (fun k ov iv wr=> ∃(j:Nat) (op:Int),ov= .int .i64 op∧iv= .int .i64 (j:Nat)∧k=n - j∧j≤n∧ -(j:Int)≤op∧op≤j∧Hid (zBK (rs.drop j) op=R)∧w=wr)
 case atStart=>exact⟨0,0,rfl,rfl,rfl,by omega,by omega,by omega,HR,rfl⟩
 case round=>
 obtain⟨j,op,rfl,rfl,hg,hjn,ho1,ho2,HC,rfl⟩:=hrel
 have HG:=zL8 hg
 clear hg HR
 by_cases hlt:j<n
 ·have hlt':(j:Int)<(n:Int):=by omega
  obtain⟨l,c,nb,no,hl,hc,rfl,hnb,hrg,hv,c7⟩:=H.out.at_ hlt
  have HD:=zL8 (H.out.drop hlt hc)
  have HC2:Hid (zBK (rs.drop (j+1)) (zDf c op)=R):=zL8 (by
   have h:=HC.out
   rwa[HD.out,zBK]at h)
  clear hl hc hrg hv HC
  generalize hnm:c.nm=nm at c7
  by_cases h1:nm=123
  ·subst h1
   rw[zDf,if_pos hnm]at HC2
   clear hnm
   go_wp2_with fail
   go_roundg (n - (j+1))
   case measure=>have:=HG.out;omega
   case rel=>exact⟨j+1,op+1,by go_num,by go_num,rfl,by omega,by omega,by omega,HC2,rfl⟩
  ·have q1:((nm:Int)==123)=false:=by simp;omega
   by_cases h2:nm=125
   ·subst h2
    rw[zDf,if_neg (by omega),if_pos hnm]at HC2
    clear hnm
    go_wp2_with fail
    go_roundg (n - (j+1))
    case measure=>have:=HG.out;omega
    case rel=>exact⟨j+1,op - 1,by go_num,by go_num,rfl,by omega,by omega,by omega,HC2,rfl⟩
   ·have q2:((nm:Int)==125)=false:=by simp;omega
    rw[zCG (by omega) (by omega) op]at HC2
    clear hnm
    go_wp2_with fail
    go_roundg (n - (j+1))
    case measure=>have:=HG.out;omega
    case rel=>exact⟨j+1,op,by go_num,by go_num,rfl,by omega,by omega,by omega,HC2,rfl⟩
 ·have hlt': ¬(j:Int)<(n:Int):=by omega
  have HE:Hid (op=R):=zL8 (by
   have h:=HC.out
   rwa[List.drop_of_length_le (by rw[H.out.rl];omega),zBK]at h)
  go_wp2_with fail
  go_ret
  exact⟨by rw[←HE.out];rfl,rfl⟩
theorem zBU.btIn {oa:Option Addr} {T:List Nat} (h:zBU w oa T) (hl:T.length≤4294967296):zKX w oa T:=⟨hl,fun hp=>by
 obtain⟨g,o,h1,h2⟩:=h hp
 refine⟨g,o,h1,zMf _ _ (h2 0 hp),fun i b hi=>?_⟩
 have hil:=(zMF.1 hi).1
 rw[h2 i hil,zMH,hi]
 rfl⟩
theorem zCQ {cap ct:Nat} {ot:Option Addr} {t:List Nat} (h:RrS w o n ls rs) (ht:zBU w ot t) (hl:t.length≤4294967296) (hz:n≤319857928070):
  Calls Tryz.prog 165 #[.slice o n cap,.slice ot t.length ct] w fun e w'=>e= .returned (.int .i64 (zAh t rs 0))∧Below w.heap.size w w':=by
 have H:=zL8 h
 have HT:=zL8 (ht.btIn hl)
 have hnz:(n:Int)≤319857928070:=by omega
 obtain⟨R,hR⟩: ∃R,zAh t rs 0=R:=⟨_,rfl⟩
 rw[hR]
 have HR:=zL8 hR
 clear h hR ht
 go_enter Tryz.func165,Tryz.ntmps165
 go_wp2_with fail
 go_loopg [5] n (fun k iv wr=> ∃j:Nat,iv= .int .i64 (j:Nat)∧k=n - j∧j≤n∧Hid (zAh t (rs.drop j) j=R)∧Below w.heap.size w wr)
 case atStart=>exact⟨0,rfl,rfl,by omega,HR,zL9 _ _⟩
 case round=>
 obtain⟨j,rfl,hg,hjn,HC,hbe⟩:=hrel
 have HG:=zL8 hg
 have HB:=zL8 hbe
 clear hg HR hbe
 by_cases hlt:j<n
 ·have hlt':(j:Int)<(n:Int):=by omega
  obtain⟨l,c,nb,no,hl,hc,rfl,hnb,hrg,hv,c7⟩:=(H.out.below HB.out).at_ hlt
  have HD:=zL8 (H.out.drop hlt hc)
  have HC2:Hid ((if c.nm=58∧c.tx=t then(j:Int)else zAh t (rs.drop (j+1)) (j+1))=R):=zL8 (by
   have h:=HC.out
   rwa[HD.out,zAh]at h)
  by_cases h58:c.nm=58
  ·have q1:((c.nm:Int)==58)=true:=by rw[beq_iff_eq];omega
   obtain⟨oc,cc,h9,htx,htz,_⟩:=hv.tx
   have c9:wr.cell? ⟨nb,no+j*272+9,none⟩=some (.slice oc c.tx.length cc):=hrg 9 _ h9
   have HE:=zL8 (zFB (ca:=cc) (cb:=ct) (htx.btIn htz) (HT.out.below HB.out))
   clear hl hc hrg hv HC h9 htx htz
   by_cases he:c.tx=t
   ·have HF:Hid ((j:Int)=R):=zL8 (by have h:=HC2.out;rwa[if_pos ⟨h58,he⟩]at h)
    rw[zMJ he]at HE
    clear h58 he
    go_wp2_with fail
    refine HE.out.mono ?_;rintro e w2 ⟨rfl,hb2⟩
    have HB2:=zL8 (HB.out.trans (hb2.mono HB.out.size))
    clear hb2
    go_wp2_with fail
    go_ret
    exact⟨by rw[←HF.out];rfl,HB2.out⟩
   ·have HF:Hid (zAh t (rs.drop (j+1)) (j+1)=R):=zL8 (by have h:=HC2.out;rwa[if_neg (fun h=>he h.2)]at h)
    rw[zMK he]at HE
    clear h58 he
    go_wp2_with fail
    refine HE.out.mono ?_;rintro e w2 ⟨rfl,hb2⟩
    have HB2:=zL8 (HB.out.trans (hb2.mono HB.out.size))
    clear hb2
    go_wp2_with fail
    go_roundg (n - (j+1))
    case measure=>have:=HG.out;omega
    case rel=>exact⟨j+1,by go_num,rfl,by omega,HF,HB2.out⟩
  ·have q1:((c.nm:Int)==58)=false:=by simp;omega
   have HF:Hid (zAh t (rs.drop (j+1)) (j+1)=R):=zL8 (by have h:=HC2.out;rwa[if_neg (fun h=>h58 h.1)]at h)
   clear hl hc hrg hv HC h58
   go_wp2_with fail
   go_roundg (n - (j+1))
   case measure=>have:=HG.out;omega
   case rel=>exact⟨j+1,by go_num,rfl,by omega,HF,HB.out⟩
 ·have hlt': ¬(j:Int)<(n:Int):=by omega
  have HE:Hid ((-1:Int)=R):=zL8 (by
   have h:=HC.out
   rwa[List.drop_of_length_le (by rw[H.out.rl];omega),zAh]at h)
  go_wp2_with fail
  go_ret
  exact⟨by rw[←HE.out];rfl,HB.out⟩
end
end
section
open Go.RowKit
def FaR (e:Ending) (ok:Bool):Prop:= ∃er:Int,e= .returned (.int .i64 er)∧(er==0)=ok
theorem FaR.mk {ok:Bool} {er:Int} {v:Value} (hv:v= .int .i64 er) (h:(er==0)=ok):FaR (.returned v) ok:=⟨er,by rw[hv],h⟩
theorem zFG: ∀(x:List Rq) (i:Nat) (o:Int),zAW x i o<(i:Int)+x.length∨zAW x i o= -1
 |[],_,_=> .inr rfl
 |c::r,i,o=>by
  rw[zAW]
  split
  ·exact .inl (by simp;omega)
  ·rcases zFG r (i+1) (zDf c o)with h|h
   ·exact .inl (by simp at h ⊢;omega)
   ·exact .inr h
theorem zC3 {n:Nat} (rs:List Rq) (i:Nat) (hi:i<n) (hr:rs.length=n): -1≤zAW (rs.drop i) i 0∧zAW (rs.drop i) i 0<(n:Int):=by
 have h1:=zFH (rs.drop i) i 0
 have h2:=zFG (rs.drop i) i 0
 rw[List.length_drop]at h2
 omega
theorem zE5 (t:List Nat): ∀(x:List Rq) (i:Nat),zAh t x i= -1∨((i:Int)≤zAh t x i∧zAh t x i<(i:Int)+x.length)
 |[],_=> .inl rfl
 |c::r,i=>by
  rw[zAh]
  split
  ·exact .inr ⟨Int.le_refl _,by simp;omega⟩
  ·rcases zE5 t r (i+1)with h|h
   ·exact .inl h
   ·exact .inr ⟨by omega,by simp at h ⊢;omega⟩
theorem zE6 {n:Nat} (t:List Nat) (rs:List Rq) (hr:rs.length=n): -1≤zAh t rs 0∧zAh t rs 0<(n:Int)∨zAh t rs 0= -1:=by
 rcases zE5 t rs 0 with h|h
 ·exact .inr h
 ·exact .inl (by omega)
section
variable {w w':World} {o:Option Addr} {n cap i:Nat} {ls:List (List Value)} {rs:List Rq} {l:List Value} {c:Rq}
theorem zFl (h:RrS w o n ls rs) (hi:i<n) (hc:rs[i]?=some c) (hz:n≤319857928070) (hcap:n≤cap):
  Calls Tryz.prog 131 #[.slice o n cap,.int .i64 (i:Nat)] w fun e w'=>FaR e (okR rs i c)∧Below w.heap.size w w':=by
 have hnz:(n:Int)≤319857928070:=by omega
 have hlt':(i:Int)<(n:Int):=by omega
 have hcc:(i:Int)≤(cap:Int):=by omega
 obtain⟨l,c',nb,no,hl,hc',rfl,hnb,hrg,hv,_⟩:=h.at_ hi
 rw[hc]at hc'
 cases hc'
 have H:=zL8 h
 have HV:=zL8 hv
 obtain⟨R,hR⟩: ∃R,okR rs i c=R:=⟨_,rfl⟩
 rw[hR]
 have HR:=zL8 hR
 have HI:=zL8 hi
 have HCI:Hid ((Tryz.prog.info? 71).map (·.size)=some l.length):=zL8 (by rw[hv.cl.len];exact zAd)
 have HSZ:=zL8 (zA2 hv.cl)
 have HSO:Hid (Tryz.zeroCells71.size=l.toArray.size):=zL8 (by rw[←Array.length_toList,List.size_toArray,zAo,hv.cl.len])
 have HON:Hid (l.toArray.all (·.oneCell')=true):=zL8 (by rw[←Array.all_toList,List.all_eq_true];simpa using hv.cl.one)
 have HHN:=zL8 (zML w (.cells Tryz.zeroCells71 71))
 have HRG:=zL8 hrg
 have hbe:Below w.heap.size w ((w.alloc (.cells Tryz.zeroCells71 71)).setRow w.heap.size l.toArray):=zAv ((zL9 _ _).alloc (zMA _) _) (zMA _) _
 have HE:Hid (CmB ((w.alloc (.cells Tryz.zeroCells71 71)).setRow w.heap.size l.toArray) w.heap.size l):=zL8 ⟨setRow_heap _ _ _ _ _ _ HHN.out,hv.cl⟩
 have HB:=zL8 hbe
 clear h hv hl hc hrg hR hbe
 go_enter Tryz.func131,Tryz.ntmps131
 go_upto_region 2 with (first|refine wpList_load_mid rfl 71 _ rfl nb (no+i*272) rfl l _ HRG.out Tryz.underlying71 rfl HCI.out ?_|refine wpList_store_row rfl 71 _ _ rfl w.heap.size l.toArray rfl rfl _ _ HHN.out HSZ.out HSO.out HON.out ?_)
 obtain⟨X1,hX⟩: ∃X,(w.alloc (.cells Tryz.zeroCells71 71)).setRow w.heap.size l.toArray=X:=⟨_,rfl⟩
 rw[hX]at HE HB ⊢
 obtain⟨e,he⟩: ∃e,w.heap.size=e:=⟨_,rfl⟩
 have HEZ:=zL8 he
 rw[he]at HE ⊢
 clear hX HRG HHN HSO HON he hnb
 by_cases h4:4096≤i
 case pos=>
  have h4':(4096:Int)≤(i:Int):=by omega
  have HF:Hid (R=false):=zL8 (by rw[←HR.out,okR,Rq.low,zMK (by omega)];simp)
  go_wp2_with fail
  go_ret
  exact⟨FaR.mk rfl (by rw[HF.out];rfl),HB.out⟩
 have h4': ¬(4096:Int)≤(i:Int):=by omega
 have HSH:=zL8 (HV.out.sh X1 HB.out)
 go_wp2_with (refine wpList_load_row rfl 71 _ rfl e rfl 71 l.toArray (0,0) _ HE.out.heap Tryz.underlying71 rfl HSZ.out ?_)
 refine HSH.out.mono ?_;rintro e2 X2 ⟨rfl,hb⟩
 have HE2:=zL8 (HE.out.below hb)
 have HB2:=zL8 (HB.out.trans (hb.mono HB.out.size))
 clear hb HE HB HSH
 by_cases hok:c.ok=true
 case neg=>
  have hok':c.ok=false:=by simpa using hok
  have HF:Hid (R=false):=zL8 (by rw[←HR.out,okR,Rq.low,hok'];simp)
  rw[hok']
  clear hok hok'
  go_wp2_with fail
  go_ret
  exact⟨FaR.mk rfl (by rw[HF.out];rfl),HB2.out⟩
 rw[hok]
 have HOK:=zL8 hok
 clear hok
 obtain⟨ot,ct,h9,htx,htz,htc⟩:=(HV.out.below HB2.out).tx
 have HT9:=zL8 h9
 have HTZ:=zL8 htz
 have HTC:=zL8 htc
 have HTX:=zL8 htx
 clear h9 htx htz htc
 go_upto_region 6 with fail
 go_cut [17] (fun x wc=>x= .bool ((c.nm==114||c.wrC)&&zDC c.tx)∧CmB wc e l∧Below w.heap.size w wc∧zBU wc ot c.tx)
 case first=>
  have k7:X2.cell? ⟨e,7,none⟩=some (.int .u8 (c.nm:Nat)):=(HE2.out.cell 7).trans HV.out.nm
  have k9:X2.cell? ⟨e,9,none⟩=some (.slice ot c.tx.length ct):=(HE2.out.cell 9).trans HT9.out
  have hel:=HE2.out.lt
  by_cases h114:c.nm=114
  ·have q1:((c.nm:Int)==114)=true:=by rw[beq_iff_eq];omega
   have HTP:=zL8 (zDv (ca:=ct) HTX.out HV.out.tl HTZ.out HTC.out)
   obtain⟨tb,htb⟩: ∃tb,zDC c.tx=tb:=⟨_,rfl⟩
   have HQ:Hid (((c.nm==114||c.wrC)&&zDC c.tx)=tb):=zL8 (by simp[h114,htb])
   rw[htb]at HTP
   clear htb
   clear h114
   go_wp2_with fail
   refine HTP.out.mono ?_;rintro e3 X3 ⟨rfl,rfl⟩
   go_wp2_with fail
   go_meet
   exact⟨by first|rw[HQ.out]|exact HQ.out.symm|simpa using HQ.out.symm,HE2.out,HB2.out,HTX.out⟩
  ·have q1:((c.nm:Int)==114)=false:=by simp;omega
   have HWR:=zL8 (zDO (HV.out.below HB2.out))
   go_wp2_with (refine zAT rfl 71 _ rfl e rfl 71 l.toArray (0,0) _ HE2.out.heap Tryz.underlying71 rfl HSZ.out ?_)
   refine HWR.out.mono ?_;rintro e4 X4 ⟨rfl,hb4⟩
   have HE4:=zL8 (HE2.out.below hb4)
   have HB4:=zL8 (HB2.out.trans (hb4.mono HB2.out.size))
   have HTX4:=zL8 (zBO HTX.out hb4)
   clear hb4 k7 k9 hel HWR
   have k9:X4.cell? ⟨e,9,none⟩=some (.slice ot c.tx.length ct):=(HE4.out.cell 9).trans HT9.out
   have hel:=HE4.out.lt
   by_cases hw:c.wrC=true
   ·have HTP:=zL8 (zDv (ca:=ct) HTX4.out HV.out.tl HTZ.out HTC.out)
    obtain⟨tb,htb⟩: ∃tb,zDC c.tx=tb:=⟨_,rfl⟩
    have HQ:Hid (((c.nm==114||c.wrC)&&zDC c.tx)=tb):=zL8 (by simp[hw,htb])
    rw[htb]at HTP
    clear htb
    rw[hw]
    clear h114 hw
    go_wp2_with fail
    refine HTP.out.mono ?_;rintro e3 X3 ⟨rfl,rfl⟩
    go_wp2_with fail
    go_meet
    exact⟨by first|rw[HQ.out]|exact HQ.out.symm|simpa using HQ.out.symm,HE4.out,HB4.out,HTX4.out⟩
   ·have hw':c.wrC=false:=by simpa using hw
    have HQ:Hid (((c.nm==114||c.wrC)&&zDC c.tx)=false):=zL8 (by simp[hw',h114])
    rw[hw']
    clear h114 hw hw'
    go_wp2_with fail
    go_meet
    exact⟨by first|rw[HQ.out]|exact HQ.out.symm|simpa using HQ.out.symm,HE4.out,HB4.out,HTX4.out⟩
 case rest=>
 obtain⟨hx,he,hb,ht⟩:=hcut
 subst hx
 have HE3:=zL8 he
 have HB3:=zL8 hb
 have HTX3:=zL8 ht
 rename World=>X3
 clear he hb ht HE2 HB2 HTX
 by_cases htm:((c.nm==114||c.wrC)&&zDC c.tx)=true
 case pos=>
  have HF:Hid (R=false):=zL8 (by rw[←HR.out,okR,Rq.low,htm];simp)
  rw[htm]
  clear htm
  go_wp2_with fail
  go_ret
  exact⟨FaR.mk rfl (by rw[HF.out];rfl),HB3.out⟩
 have htm':((c.nm==114||c.wrC)&&zDC c.tx)=false:=by simpa using htm
 have HLOW:Hid (c.low i=true):=zL8 (by rw[Rq.low,htm',HOK.out,zMJ (by omega)];rfl)
 have HK:Hid (R=(!(c.nm==125&&zBK (rs.take i) 0==0)&& !(c.nm==123&&zBK (rs.take i) 0==64)&& !(c.nm==58&&decide (0≤zAh c.tx (rs.take i) 0)))):=zL8 (by rw[←HR.out,okR,HLOW.out,Bool.true_and])
 rw[htm']
 clear htm htm' HLOW HR HOK
 have HTK:=zL8 ((H.out.below HB3.out).take (k:=i) (by omega))
 have HOP:=zL8 (zG0 (cap:=cap) HTK.out (by omega))
 have HLB:=zL8 (zCQ (cap:=cap) (ct:=ct) HTK.out HTX3.out HTZ.out (by omega))
 have k7:X3.cell? ⟨e,7,none⟩=some (.int .u8 (c.nm:Nat)):=(HE3.out.cell 7).trans HV.out.nm
 have k9:X3.cell? ⟨e,9,none⟩=some (.slice ot c.tx.length ct):=(HE3.out.cell 9).trans HT9.out
 have hel:=HE3.out.lt
 obtain⟨op,hop⟩: ∃op,zBK (rs.take i) 0=op:=⟨_,rfl⟩
 rw[hop]at HOP HK
 obtain⟨lb,hlb⟩: ∃lb,zAh c.tx (rs.take i) 0=lb:=⟨_,rfl⟩
 rw[hlb]at HLB HK
 have HLBE:=zL8 hlb
 clear hop hlb
 by_cases h125:c.nm=125
 case pos=>
  have q1:((c.nm:Int)==125)=true:=by rw[beq_iff_eq];omega
  have q2:((c.nm:Int)==123)=false:=by simp;omega
  have q3:((c.nm:Int)==58)=false:=by simp;omega
  by_cases h0:op=0
  ·have q4:(op==0)=true:=by rw[beq_iff_eq];exact h0
   have HF:Hid (R=false):=zL8 (by rw[HK.out,h125,h0];rfl)
   clear h125 h0
   go_wp2_with fail
   refine HOP.out.mono ?_;rintro e4 X4 ⟨rfl,rfl⟩
   go_wp2_with fail
   go_ret
   exact⟨FaR.mk rfl (by rw[HF.out];rfl),HB3.out⟩
  ·have q4:(op==0)=false:=by rw[zME];exact h0
   have HF:Hid (R=true):=zL8 (by rw[HK.out,h125,q4];rfl)
   clear h125 h0
   go_wp2_with fail
   refine HOP.out.mono ?_;rintro e4 X4 ⟨rfl,rfl⟩
   go_wp2_with fail
   refine zAA (X:=none) 13 [([0,1,2,3,4,5,6,7,8],9)] [10,11,12] (by kernel_rfl) (by kernel_rfl) rfl (fun _ _ _ _ _ h=>h) ?_
   simp only[zAJ,zAC,zAG,zAD,zAB,List.getD_cons_zero,List.getD_cons_succ,List.drop_succ_cons,List.drop_nil]
   repeat (go_big_quiet_step (fail))
   refine wpQuiet_nil ?_
   go_wp2_with fail
   refine⟨zAP.refl _,?_⟩
   repeat (go_big_quiet_step (fail))
   refine wpQuiet_nil ?_
   go_wp2_with fail
   go_ret
   exact⟨FaR.mk rfl (by rw[HF.out];rfl),HB3.out.drew⟩
 have q1:((c.nm:Int)==125)=false:=by simp;omega
 by_cases h123:c.nm=123
 case pos=>
  have q2:((c.nm:Int)==123)=true:=by rw[beq_iff_eq];omega
  have q3:((c.nm:Int)==58)=false:=by simp;omega
  by_cases h0:op=64
  ·have q4:(op==64)=true:=by rw[beq_iff_eq];exact h0
   have HF:Hid (R=false):=zL8 (by rw[HK.out,h123,h0];rfl)
   clear h125 h123 h0
   go_wp2_with fail
   refine HOP.out.mono ?_;rintro e4 X4 ⟨rfl,rfl⟩
   go_wp2_with fail
   go_ret
   exact⟨FaR.mk rfl (by rw[HF.out];rfl),HB3.out⟩
  ·have q4:(op==64)=false:=by rw[zME];exact h0
   have HF:Hid (R=true):=zL8 (by rw[HK.out,h123,q4];rfl)
   clear h125 h123 h0
   go_wp2_with fail
   refine HOP.out.mono ?_;rintro e4 X4 ⟨rfl,rfl⟩
   go_wp2_with fail
   refine zAA (X:=none) 13 [([0,1,2,3,4,5,6,7,8],9)] [10,11,12] (by kernel_rfl) (by kernel_rfl) rfl (fun _ _ _ _ _ h=>h) ?_
   simp only[zAJ,zAC,zAG,zAD,zAB,List.getD_cons_zero,List.getD_cons_succ,List.drop_succ_cons,List.drop_nil]
   repeat (go_big_quiet_step (fail))
   refine wpQuiet_nil ?_
   go_wp2_with fail
   refine⟨zAP.refl _,?_⟩
   repeat (go_big_quiet_step (fail))
   refine wpQuiet_nil ?_
   go_wp2_with fail
   go_ret
   exact⟨FaR.mk rfl (by rw[HF.out];rfl),HB3.out.drew⟩
 have q2:((c.nm:Int)==123)=false:=by simp;omega
 by_cases h58:c.nm=58
 case neg=>
  have q3:((c.nm:Int)==58)=false:=by simp;omega
  have HF:Hid (R=true):=zL8 (by rw[HK.out];simp[h125,h123,h58])
  clear h125 h123 h58
  go_wp2_with fail
  refine zAA (X:=none) 13 [([0,1,2,3,4,5,6,7,8],9)] [10,11,12] (by kernel_rfl) (by kernel_rfl) rfl (fun _ _ _ _ _ h=>h) ?_
  simp only[zAJ,zAC,zAG,zAD,zAB,List.getD_cons_zero,List.getD_cons_succ,List.drop_succ_cons,List.drop_nil]
  repeat (go_big_quiet_step (fail))
  refine wpQuiet_nil ?_
  go_wp2_with fail
  refine⟨zAP.refl _,?_⟩
  repeat (go_big_quiet_step (fail))
  refine wpQuiet_nil ?_
  go_wp2_with fail
  go_ret
  exact⟨FaR.mk rfl (by rw[HF.out];rfl),HB3.out.drew⟩
 have q3:((c.nm:Int)==58)=true:=by rw[beq_iff_eq];omega
 have HF:Hid (R= !decide (0≤lb)):=zL8 (by rw[HK.out,h58];rfl)
 have HDR:Hid (Below X3.heap.size X3 X3.drew):=zL8 (zL9 _ _).drew
 have HLB2:=zL8 (zCQ (cap:=cap) (ct:=ct) (HTK.out.below HDR.out) (zBO HTX3.out HDR.out) HTZ.out (by omega))
 rw[HLBE.out]at HLB2
 clear h125 h123 h58 HLB
 go_wp2_with fail
 refine zAA (X:=none) 13 [([0,1,2,3,4,5,6,7,8],9)] [10,11,12] (by kernel_rfl) (by kernel_rfl) rfl (fun _ _ _ _ _ h=>h) ?_
 simp only[zAJ,zAC,zAG,zAD,zAB,List.getD_cons_zero,List.getD_cons_succ,List.drop_succ_cons,List.drop_nil]
 repeat (go_big_quiet_step (fail))
 refine wpQuiet_nil ?_
 go_wp2_with fail
 refine HLB2.out.mono ?_;rintro e4 X4 ⟨rfl,hb4⟩
 have HB4:=zL8 (HB3.out.trans ((HDR.out.trans hb4).mono HB3.out.size))
 have HK4:=zL8 hb4
 clear hb4
 by_cases h0:0≤lb
 ·have q5:decide (0≤lb)=true:=zMJ h0
  have q6:decide (lb≥0)=true:=zMJ h0
  rw[q5]at HF
  go_wp2_with fail
  refine⟨zAP.of_below HK4.out,?_⟩
  repeat (go_big_quiet_step (fail))
  refine wpQuiet_nil ?_
  go_wp2_with fail
  go_ret
  exact⟨FaR.mk rfl (by rw[HF.out];rfl),HB4.out⟩
 ·have q5:decide (0≤lb)=false:=zMK h0
  have q6:decide (lb≥0)=false:=zMK h0
  rw[q5]at HF
  go_wp2_with fail
  refine⟨zAP.of_below HK4.out,?_⟩
  repeat (go_big_quiet_step (fail))
  refine wpQuiet_nil ?_
  go_wp2_with fail
  go_ret
  exact⟨FaR.mk rfl (by rw[HF.out];rfl),HB4.out⟩
theorem zJB (h:RrS w o n ls rs) (hi:i<n) (hc:rs[i]?=some c) (hz:n≤319857928070):
  Calls Tryz.prog 133 #[.slice o n cap,.int .i64 (i:Nat)] w fun e w'=>e= .returned (.int .i64 (toR rs i c))∧Below w.heap.size w w':=by
 have hnz:(n:Int)≤319857928070:=by omega
 have hlt':(i:Int)<(n:Int):=by omega
 obtain⟨l,c',nb,no,hl,hc',rfl,hnb,hrg,hv,_⟩:=h.at_ hi
 rw[hc]at hc'
 cases hc'
 have H:=zL8 h
 have HV:=zL8 hv
 obtain⟨R,hR⟩: ∃R,toR rs i c=R:=⟨_,rfl⟩
 rw[hR]
 have HR:=zL8 hR
 have HI:=zL8 hi
 have HCI:Hid ((Tryz.prog.info? 71).map (·.size)=some l.length):=zL8 (by rw[hv.cl.len];exact zAd)
 have HSZ:=zL8 (zA2 hv.cl)
 have HSO:Hid (Tryz.zeroCells71.size=l.toArray.size):=zL8 (by rw[←Array.length_toList,List.size_toArray,zAo,hv.cl.len])
 have HON:Hid (l.toArray.all (·.oneCell')=true):=zL8 (by rw[←Array.all_toList,List.all_eq_true];simpa using hv.cl.one)
 have HHN:=zL8 (zML w (.cells Tryz.zeroCells71 71))
 have HRG:=zL8 hrg
 have hbe:Below w.heap.size w ((w.alloc (.cells Tryz.zeroCells71 71)).setRow w.heap.size l.toArray):=zAv ((zL9 _ _).alloc (zMA _) _) (zMA _) _
 have HE:Hid (CmB ((w.alloc (.cells Tryz.zeroCells71 71)).setRow w.heap.size l.toArray) w.heap.size l):=zL8 ⟨setRow_heap _ _ _ _ _ _ HHN.out,hv.cl⟩
 have HB:=zL8 hbe
 clear h hv hl hc hrg hR hbe
 go_enter Tryz.func133,Tryz.ntmps133
 go_upto_region 2 with (first|refine wpList_load_mid rfl 71 _ rfl nb (no+i*272) rfl l _ HRG.out Tryz.underlying71 rfl HCI.out ?_|refine wpList_store_row rfl 71 _ _ rfl w.heap.size l.toArray rfl rfl _ _ HHN.out HSZ.out HSO.out HON.out ?_)
 obtain⟨X1,hX⟩: ∃X,(w.alloc (.cells Tryz.zeroCells71 71)).setRow w.heap.size l.toArray=X:=⟨_,rfl⟩
 rw[hX]at HE HB ⊢
 obtain⟨e,he⟩: ∃e,w.heap.size=e:=⟨_,rfl⟩
 rw[he]at HE ⊢
 clear hX HRG HHN HSO HON he hnb HCI HSZ
 have k7:X1.cell? ⟨e,7,none⟩=some (.int .u8 (c.nm:Nat)):=(HE.out.cell 7).trans HV.out.nm
 have hel:=HE.out.lt
 obtain⟨ot,ct,h9,htx,htz,htc⟩:=(HV.out.below HB.out).tx
 have k9:X1.cell? ⟨e,9,none⟩=some (.slice ot c.tx.length ct):=(HE.out.cell 9).trans h9
 have HLB:=zL8 (zCQ (cap:=cap) (ct:=ct) (H.out.below HB.out) htx htz hz)
 clear h9 htx htz htc
 by_cases h123:c.nm=123
 ·have q1:((c.nm:Int)==123)=true:=by rw[beq_iff_eq];omega
  have HCL:=zL8 (zC0 (cap:=cap) (H.out.below HB.out) hi hz)
  have HF:Hid (zAW (rs.drop i) i 0+1=R):=zL8 (by have h:=HR.out;rwa[toR,if_pos h123]at h)
  have hcb:=zC3 rs i hi H.out.rl
  have HCB:Hid (-1≤zAW (rs.drop i) i 0∧zAW (rs.drop i) i 0<(n:Int)):=zL8 hcb
  obtain⟨cf,hcf⟩: ∃cf,zAW (rs.drop i) i 0=cf:=⟨_,rfl⟩
  rw[hcf]at HCL HF hcb
  clear h123 hcf HCB
  go_wp2_with fail
  refine HCL.out.mono ?_;rintro e4 X4 ⟨rfl,rfl⟩
  go_wp2_with fail
  go_ret
  exact⟨by rw[←HF.out];rfl,HB.out⟩
 have q1:((c.nm:Int)==123)=false:=by simp;omega
 by_cases hbt:c.nm=98∨c.nm=116
 case neg=>
  have q2:((c.nm:Int)==98)=false:=by simp;omega
  have q3:((c.nm:Int)==116)=false:=by simp;omega
  have HF:Hid ((-1:Int)=R):=zL8 (by have h:=HR.out;rwa[toR,if_neg h123,if_neg hbt]at h)
  clear h123 hbt
  go_wp2_with fail
  go_ret
  exact⟨by rw[←HF.out];rfl,HB.out⟩
 have HF:Hid ((if c.tx=[]then(rs.length:Int)else if zAh c.tx rs 0<0 then -2 else zAh c.tx rs 0+1)=R):=zL8 (by have h:=HR.out;rwa[toR,if_neg h123,if_pos hbt]at h)
 rw[H.out.rl]at HF
 have hlb:=zE6 c.tx rs H.out.rl
 obtain⟨lb,hlf⟩: ∃lb,zAh c.tx rs 0=lb:=⟨_,rfl⟩
 rw[hlf]at HLB HF hlb
 clear hlf
 go_upto_if 19 with fail
 go_cut [19] (fun x wc=>x= .bool true∧X1=wc)
 case first=>
  rcases hbt with h98|h116
  ·have q2:((c.nm:Int)==98)=true:=by rw[h98];rfl
   clear h98
   go_wp2_with fail
   go_meet
   exact⟨by first|rfl|rw[q2]|simp[q2],rfl⟩
  ·have q2:((c.nm:Int)==98)=false:=by rw[h116];rfl
   have q3:((c.nm:Int)==116)=true:=by rw[h116];rfl
   clear h116
   go_wp2_with fail
   go_meet
   exact⟨by first|rfl|rw[q3]|simp[q3],rfl⟩
 case rest=>
 obtain⟨hx,hxw⟩:=hcut
 subst hx
 subst hxw
 clear k7 hbt
 by_cases ht:c.tx=[]
 ·have hl0:c.tx.length=0:=by rw[ht];rfl
  have HG:Hid ((n:Int)=R):=zL8 (by have h:=HF.out;rwa[if_pos ht]at h)
  rw[hl0]at k9
  clear ht hl0
  go_wp2_with fail
  go_ret
  exact⟨by rw[←HG.out];rfl,HB.out⟩
 have hl1:((c.tx.length:Int)==0)=false:=by
  rw[zME]
  intro h
  exact ht (zMg (by omega))
 by_cases hn:lb<0
 ·have HG:Hid ((-2:Int)=R):=zL8 (by have h:=HF.out;rwa[if_neg ht,if_pos hn]at h)
  have hn2:decide (lb<0)=true:=zMJ hn
  clear ht
  go_wp2_with fail
  refine HLB.out.mono ?_;rintro e4 X4 ⟨rfl,hb4⟩
  have HB4:=zL8 (HB.out.trans (hb4.mono HB.out.size))
  clear hb4
  go_wp2_with fail
  go_ret
  exact⟨by rw[←HG.out];rfl,HB4.out⟩
 ·have HG:Hid (lb+1=R):=zL8 (by have h:=HF.out;rwa[if_neg ht,if_neg hn]at h)
  have hn2:decide (lb<0)=false:=zMK hn
  have hlb2:lb<(n:Int):=by omega
  have hlb3:0≤lb:=by omega
  clear ht hlb
  go_wp2_with fail
  refine HLB.out.mono ?_;rintro e4 X4 ⟨rfl,hb4⟩
  have HB4:=zL8 (HB.out.trans (hb4.mono HB.out.size))
  clear hb4
  go_wp2_with fail
  go_ret
  exact⟨by rw[←HG.out];rfl,HB4.out⟩
end
end
section
open Go.RowKit
theorem zH9: ∀(r:List Rq) (i:Nat) (s s':Rp),p1S r i s=some s'→r=[]∨i+r.length≤4096
 |[],_,_,_,_=> .inl rfl
 |c::r,i,s,s',h=>by
  rw[p1S]at h
  cases hc:p1c i c s with
  |none=>rw[hc]at h;cases h
  |some s1=>
   rw[hc]at h
   have hi:i<4096:=by
    unfold p1c at hc
    split at hc
    ·rename_i hl
     unfold Rq.low at hl
     simp only[Bool.and_eq_true,decide_eq_true_eq]at hl
     exact hl.1.1
    ·cases hc
   rcases zH9 r (i+1) s1 s' h with e|e
   ·right;rw[e];simp only[List.length_cons,List.length_nil];omega
   ·right;rw[List.length_cons];omega
theorem zJF {l:List Rq} {tn:List Int} (h:zCR l=some tn):l.length≤4096:=by
 unfold zCR at h
 split at h
 ·cases h
 ·rename_i s hs
  rcases zH9 _ _ _ _ hs with e|e
  ·rw[e];decide
  ·omega
def NkR (ks:List NdK):Prop:= ∀k∈ks,∃ra rb R:List Nd,k=⟨ra.length,rb.length,R.length,zBb ra,zBb rb,zBb R⟩∧(ra.length≤4294967296∧rb.length≤4294967296∧R.length≤4294967296)∧(∀x∈ra,x.kids≤9223372036854775807)∧(∀x∈rb,x.kids≤9223372036854775807)∧ ∀x∈R,x.kids≤9223372036854775807
structure NeG (w:World) (cb mp sb base:Nat) (oc:Option Addr) (nc cc:Nat) (ks:List NdK) (L:List (Nat × Value)):Prop where
 tb:TbP w cb L
 sp:BkV w sb spL
 ma:MpI w mp
 cm:CmO w base (.slice oc nc cc) ks
 o1:mp<cb
 o2:cb<base
 o3:cb<sb
section
variable {w w':World} {cb mp sb base nc cc:Nat} {oc:Option Addr} {ks:List NdK} {L L':List (Nat × Value)}
theorem NeG.below (h:NeG w cb mp sb base oc nc cc ks L) (hb:Below w.heap.size w w'):NeG w' cb mp sb base oc nc cc ks L:=
 ⟨h.tb.same (hb.block cb h.tb.bk.lt) hb.size,h.sp.same (hb.block sb h.sp.lt) hb.size,h.ma.block (hb.block mp h.ma.lt),h.cm.kb (.below hb),h.o1,h.o2,h.o3⟩
theorem NeG.put (h:NeG w cb mp sb base oc nc cc ks L) (hk:zAb w w' (fun x=>x=mp)) (hm:MpI w' mp):NeG w' cb mp sb base oc nc cc ks L:=
 ⟨h.tb.same (hk.block cb h.tb.bk.lt (by have:=h.o1;omega)) hk.size,h.sp.same (hk.block sb h.sp.lt (by have:=h.o1;have:=h.o3;omega)) hk.size,hm,h.cm.kb ⟨hk.size,fun k h1 h2=>hk.block k h2 (by have:=h.o1;have:=h.o2;omega)⟩,h.o1,h.o2,h.o3⟩
theorem NeG.tbl (h:NeG w cb mp sb base oc nc cc ks L) (hk:zAb w w' (fun x=>x=cb)) (ht:TbP w' cb L'):NeG w' cb mp sb base oc nc cc ks L':=
 ⟨ht,h.sp.same (hk.block sb h.sp.lt (by have:=h.o3;omega)) hk.size,h.ma.block (hk.block mp h.ma.lt (by have:=h.o1;omega)),h.cm.kb ⟨hk.size,fun k h1 h2=>hk.block k h2 (by have:=h.o2;omega)⟩,h.o1,h.o2,h.o3⟩
theorem zHv {i j:Nat} (hi:i≤4096) (hj:j≤3):Calls Tryz.prog 30 #[.int .i64 (i:Nat),.int .i64 (j:Nat)] w fun e w'=>(∃v,e= .returned (.int .i64 v))∧w=w':=by
 have hi':(i:Int)≤4096:=by omega
 by_cases h:j=0
 ·subst h
  go_enter Tryz.func30,Tryz.ntmps30
  go_wp2_with fail
  go_ret
  exact⟨⟨_,rfl⟩,rfl⟩
 ·have h':((j:Int)==0)=false:=zME.2 (by omega)
  have hj':(j:Int)≤3:=by omega
  go_enter Tryz.func30,Tryz.ntmps30
  go_wp2_with fail
  go_ret
  exact⟨⟨_,rfl⟩,rfl⟩
theorem zKN {n:Nat} (hn:n≤4096):
  Calls Tryz.prog 28 #[.int .i64 (n:Nat)] w fun e w'=>(∃gb,e= .returned (.tuple #[.pointer (some ⟨gb,0,none⟩),.int .i64 0]))∧Below w.heap.size w w':=by
 obtain⟨i0,hi,hz0,hz1,hz2⟩:=info_parts (zJc).hi
 have h1: ¬(n:Int)<0:=by omega
 have h2: ¬(4096:Int)<(n:Int):=by omega
 go_enter Tryz.func28,Tryz.ntmps28
 go_wp2_with (at_make;refine wpList_make_full _ rfl _ _ 140 rfl w.heap.size 4 i0 _ 1 Tryz.underlying140 hi hz0 hz1 .i64 .i64 (n:Int) (n:Int) n rfl rfl (by omega) (by omega) (by rw[hz2];omega) (by unfold maxLen;omega) (Nat.le_refl _) ?_)
 intro w1 hown hgr
 have HB:=zL8 ((zL9 w.heap.size w).grown hgr (zMA _) (fun k hk=>by cases hk))
 have hs:=HB.out.size
 clear hown hgr hi hz0 hz1 hz2
 go_wp2_with fail
 go_ret2
 exact⟨⟨_,rfl⟩,HB.out.alloc hs _⟩
def NdR (w:World) (base:Nat) (o:Option Addr) (n k:Nat):Prop:= ∃re:List Nd,re.length=n∧n≤4294967296∧(∀x∈re,x.kids≤9223372036854775807)∧w.ownsRow base 127 9 (.slice o n k) n (zBb re)
theorem NdR.kb {o:Option Addr} {n k:Nat} (h:NdR w base o n k) (hk:Kb base w w'):NdR w' base o n k:=by
 obtain⟨re,h1,h2,h3,h4⟩:=h
 exact⟨re,h1,h2,h3,zAQ h4 hk⟩
theorem NdR.call {o:Option Addr} {n k:Nat} (h:NdR w base o n k):Calls Tryz.prog 29 #[.slice o n k] w fun e w'=>(∃p er,e= .returned (.tuple #[.pointer p,.int .i64 er]))∧Below w.heap.size w w':=by
 obtain⟨re,rfl,h2,h3,h4⟩:=h
 obtain⟨o',k',he,_,hv⟩:=Nds.toV2 (w:=w) (base:=base) (v:= .slice o re.length k) (re:=re) h4 h2 h3
 cases he
 refine zG7 hv ⟨?_,zAi re,zEJ re,h2,⟨_,_,rfl⟩⟩
 rcases h4.2 with ⟨e,h0⟩|⟨g,cap,cur,e,_,hg,_,_,_,ht⟩
 ·exact .inl ⟨e,h0,by
   have:(zBb re).length=0:=by rw[zAi,h0]
   exact List.length_eq_zero_iff.1 this⟩
 ·cases e
  refine .inr ⟨_,_,rfl,fun j u hu=>?_⟩
  rw[zAq,Nat.zero_add]
  have h5:(cur.toList.take (re.length*9))[j]?=some u:=by rw[ht];exact hu
  rw[zMN _ _ j _ _ (0,0) hg,←Array.getElem?_toList]
  rw[List.getElem?_take]at h5
  split at h5
  ·exact h5
  ·cases h5
end
end
section
open Go.RowKit
section
variable {w:World} {oc ot of_:Option Addr} {n cc m ct k cf wb:Nat} {q:Bool} {rs:List Rq} {ks:List NdK} {G:Prop}
theorem zI6 (hg: ∀W,Below w.heap.size w W→Calls Tryz.prog 24 #[.agg #[.slice oc n cc,.slice ot m ct,.slice of_ k cf,.bool q]] W fun e W'=>(∃b,e= .returned (.bool b)∧(b=true↔G))∧Below W.heap.size W W')
  (hr: ∀W,Below w.heap.size w W→Calls Tryz.prog 26 #[.slice oc n cc,.bool q] W fun e W'=>RzR rs ks q W.heap.size e W'∧Below W.heap.size W W')
  (hG:G→ ∃tn,zCR rs=some tn) (hrn:rs.length=n) (hkn:ks.length=n) (hkr:NkR ks):
  Calls Tryz.prog 7 #[.agg #[.slice oc n cc,.slice ot m ct,.slice of_ k cf,.bool q],.iface 33 (.pointer (some ⟨wb,0,none⟩))] w fun e w'=>
   (¬G∧e= .returned (.tuple #[.pointer none,.int .i64 72])∨G∧ ∃mb cb sb,e= .returned (.tuple #[.pointer (some ⟨mb,0,none⟩),.int .i64 0])∧MaN w' mb cb sb)∧Below w.heap.size w w':=by
 have hba:Below w.heap.size w (w.alloc (.cells #[.slice oc n cc,.slice ot m ct,.slice of_ k cf,.bool q] 26)):=(zL9 _ _).alloc (zMA _) _
 have HR:=zL8 (hg _ hba)
 have HRES:=zL8 hr
 have HP:=zL8 (PrB.new w (.slice oc n cc) (.slice ot m ct) (.slice of_ k cf) q)
 have HB:=zL8 hba
 have HGG:=zL8 hG
 have HRN:=zL8 hrn
 have HKN:=zL8 hkn
 have HKR:=zL8 hkr
 clear hg hr hG hrn hkn hkr hba
 go_enter Tryz.func7,Tryz.ntmps7
 go_upto_region 1 with fail
 obtain⟨W,hW⟩: ∃W,w.alloc (.cells #[.slice oc n cc,.slice ot m ct,.slice of_ k cf,.bool q] 26)=W:=⟨_,rfl⟩
 rw[hW]at HR HP HB ⊢
 obtain⟨c,hcz⟩: ∃c,w.heap.size=c:=⟨_,rfl⟩
 have HW0:Hid (∀ {X:World},Below c w X→Below w.heap.size w X):=zL8 fun h=>by rw[hcz];exact h
 rw[hcz]at HP HB ⊢
 clear hW hcz
 have c0:=HP.out.c0
 have c1:=HP.out.c1
 have c2:=HP.out.c2
 have c3:=HP.out.c3
 have hl:=HP.out.lt
 go_wp2_with fail
 refine HR.out.mono ?_;rintro e w1 ⟨⟨b,rfl,hbg⟩,hb⟩
 have HB1:=zL8 (HB.out.trans (hb.mono (Nat.le_of_lt hl)))
 have HP1:=zL8 (HP.out.below hb)
 have HBG:=zL8 hbg
 clear hb hbg c0 c1 c2 c3 hl HR HB HP
 cases b with
 |false=>
  go_wp2_with fail
  go_ret2
  exact⟨.inl ⟨fun h=>absurd (HBG.out.2 h) (by decide),rfl⟩,HW0.out HB1.out⟩
 |true=>
 have HGT:Hid G:=zL8 (HBG.out.1 rfl)
 clear HBG
 obtain⟨tn0,htn0⟩:=HGG.out HGT.out
 have HN4:Hid (n≤4096):=zL8 (by rw[←HRN.out];exact zJF htn0)
 have HRP:=zL8 htn0
 clear htn0 HGG
 have HQN: ∀W:World,Hid _:=fun W=>zL8 (zEw W)
 go_wp2_with (refine zBi rfl _ rfl ?_)
 refine(HQN _).out.mono ?_;rintro e w2 ⟨rfl,hq2,hb2⟩
 have hbm:Below w1.heap.size w1 (w1.alloc (.map #[] 0)):=(zL9 _ _).alloc (zMA _) _
 have hm2:=(MpI.new w1).block (hb2.block w1.heap.size (by simp))
 have em:(w1.alloc (.map #[] 0)).heap.size=w1.heap.size+1:=by simp
 have HB2:=zL8 ((HB1.out.trans (hbm.mono (by have:=HP1.out.lt;omega))).trans (hb2.mono (by have:=HP1.out.lt;omega)))
 have HP2:=zL8 ((HP1.out.below hbm).below hb2)
 rw[em]at hq2 ⊢
 have HM2:=zL8 hm2
 have HCL:Hid (c<w1.heap.size):=zL8 HP1.out.lt
 have hqlt:=hq2.lt
 clear hbm em hq2 hm2 hb2 HB1 HP1 HQN
 obtain⟨mp,hmp⟩: ∃mp,w1.heap.size=mp:=⟨_,rfl⟩
 rw[hmp]at HM2 HCL hqlt ⊢
 obtain⟨qb,hqb⟩: ∃qb,mp+1=qb:=⟨_,rfl⟩
 rw[hqb]at hqlt ⊢
 have HQL:=zL8 hqlt
 have HMQ:Hid (mp<qb):=zL8 (by omega)
 clear hmp hqb hqlt
 go_upto_region 4 with fail
 have hsz:=zFE
 have hzz:=zFD
 obtain⟨Z,hZ⟩: ∃Z,Tryz.zeroCells90=Z:=⟨_,rfl⟩
 rw[hZ]at hsz hzz ⊢
 clear hZ
 have hC:=zGP (wb:=wb) (qb:=qb) (mp:=mp) hzz hsz
 have hS:((((Z.setIfInBounds 5 (.iface 33 (.pointer (some ⟨wb,0,none⟩)))).setIfInBounds 6 (.map (some mp))).setIfInBounds 8 (.pointer (some ⟨qb,0,none⟩))).setIfInBounds 267 (.int .i64 (-1))).size=274:=by simp[hsz]
 have hC6:((((Z.setIfInBounds 5 (.iface 33 (.pointer (some ⟨wb,0,none⟩)))).setIfInBounds 6 (.map (some mp))).setIfInBounds 8 (.pointer (some ⟨qb,0,none⟩))).setIfInBounds 267 (.int .i64 (-1)))[6]?=some (.map (some mp)):=by
  rw[Array.getElem?_setIfInBounds_ne (by decide),Array.getElem?_setIfInBounds_ne (by decide),Array.getElem?_setIfInBounds_self_of_lt (by simp[hsz])]
 obtain⟨C,hCC⟩: ∃C,(((Z.setIfInBounds 5 (.iface 33 (.pointer (some ⟨wb,0,none⟩)))).setIfInBounds 6 (.map (some mp))).setIfInBounds 8 (.pointer (some ⟨qb,0,none⟩))).setIfInBounds 267 (.int .i64 (-1))=C:=⟨_,rfl⟩
 rw[hCC]at hC hS hC6 ⊢
 clear hCC hzz hsz
 have hba:Below w2.heap.size w2 (w2.alloc (.cells C 90)):=(zL9 _ _).alloc (zMA _) _
 have HT:Hid (TbP (w2.alloc (.cells C 90)) w2.heap.size (zE0 wb qb++[(6,.map (some mp))])):=zL8 ⟨⟨zAl _ _,fun p hp=>(zAL _ _ _ _).trans (by
  rcases zMd.1 hp with hp|hp
  ·exact hC p hp
  ·rw[List.mem_singleton]at hp
   subst hp
   exact hC6),zC1 _ _ _⟩,fun o _ h2=>⟨C[o]'(by omega),(zAL _ _ _ _).trans (Array.getElem?_eq_getElem (by omega))⟩⟩
 have HB3:=zL8 (HB2.out.trans (hba.mono (by have:=HP2.out.lt;omega)))
 have HP3:=zL8 (HP2.out.below hba)
 have HM3:=zL8 (HM2.out.block (hba.block mp HM2.out.lt))
 have HQC:Hid (qb<w2.heap.size):=HQL
 obtain⟨X,hX⟩: ∃X,w2.alloc (.cells C 90)=X:=⟨_,rfl⟩
 obtain⟨cb,hcb⟩: ∃cb,w2.heap.size=cb:=⟨_,rfl⟩
 rw[hX]at HT HB3 HP3 HM3 ⊢
 rw[hcb]at HT HQC ⊢
 clear hX hcb hba hC hS hC6 HB2 HP2 HM2
 have HRS:=zL8 (HRES.out X (HW0.out HB3.out))
 have c0:=HP3.out.c0
 have c3:=HP3.out.c3
 have hl:=HP3.out.lt
 go_wp2_with fail
 refine HRS.out.mono ?_;rintro e w3 ⟨hrz,hb3⟩
 rcases hrz with ⟨hno,_⟩|⟨tn,_,_,vc,vt,vf,rfl,hcm,hvt,hvf⟩
 ·rw[HRP.out]at hno
  cases hno
 obtain⟨xs0,hxo,_⟩:=id hcm
 obtain⟨oc2,cc2,rfl⟩:=zAI hxo
 obtain⟨ot2,ct2,rfl⟩:=zAI hvt
 obtain⟨of2,cf2,rfl⟩:=zAI hvf
 rw[HKN.out]at hcm ⊢
 obtain⟨fn,hfn⟩: ∃x,(zAO rs []).length=x:=⟨_,rfl⟩
 obtain⟨rn,hrn⟩: ∃x,rs.length=x:=⟨_,rfl⟩
 rw[hfn,hrn]
 clear hvt hvf hxo hfn hrn
 have hcx:cb<X.heap.size:=HT.out.bk.lt
 obtain⟨base,hbase⟩: ∃b,X.heap.size=b:=⟨_,rfl⟩
 have HT3:=zL8 (HT.out.same (hb3.block cb HT.out.bk.lt) hb3.size)
 have HB4:=zL8 (HB3.out.trans (hb3.mono (by omega)))
 have HM4:=zL8 (HM3.out.block (hb3.block mp HM3.out.lt))
 rw[hbase]at hcm hcx
 have HCM:=zL8 hcm
 have HCB:=zL8 hcx
 have HBW3:Hid (base≤w3.heap.size):=zL8 (by rw[←hbase];exact hb3.size)
 clear hcm hcx hbase hb3 c0 c3 hl HRS HT HB3 HM3 HP3
 have hfst:(zE0 wb qb++[(6,Value.map (some mp))]:List (Nat × Value)).map (·.1)=[0,1,2,3,4,5,8,9,122,266,267,268,269,270,271,272,273,6]:=by rw[List.map_append,zGQ];rfl
 have f1:=HT3.out.bk.get 1 rfl
 have f2:=HT3.out.bk.get 2 rfl
 have f3:=HT3.out.bk.get 3 rfl
 have f4:=HT3.out.bk.get 4 rfl
 have fz:=HT3.out.bk.fz
 have hcl:=HT3.out.bk.lt
 have hK:[0,1,2,3,4,5,8,9,122,266,267,268,269,270,271,272,273,6].Nodup:=by decide
 obtain⟨t1,e1⟩:=HT3.out.putK hfst hK 1 (o:=1) (u:= .slice none 0 0) rfl (.slice oc2 n cc2)
 obtain⟨t2,e2⟩:=t1.putK e1 hK 2 (o:=2) (u:= .slice none 0 0) rfl (.slice ot2 rn ct2)
 obtain⟨t3,e3⟩:=t2.putK e2 hK 3 (o:=3) (u:= .slice none 0 0) rfl (.slice of2 fn cf2)
 obtain⟨t4,e4⟩:=t3.putK e3 hK 4 (o:=4) (u:= .bool false) rfl (.bool q)
 have HT4:=zL8 t4
 have HE4:=zL8 e4
 have k1:=zAb.setCell w3 ⟨cb,1,none⟩ (.slice oc2 n cc2)
 have k2:=zAb.setCell (w3.setCell ⟨cb,1,none⟩ (.slice oc2 n cc2)) ⟨cb,2,none⟩ (.slice ot2 rn ct2)
 have k3:=zAb.setCell ((w3.setCell ⟨cb,1,none⟩ (.slice oc2 n cc2)).setCell ⟨cb,2,none⟩ (.slice ot2 rn ct2)) ⟨cb,3,none⟩ (.slice of2 fn cf2)
 have k4:=zAb.setCell (((w3.setCell ⟨cb,1,none⟩ (.slice oc2 n cc2)).setCell ⟨cb,2,none⟩ (.slice ot2 rn ct2)).setCell ⟨cb,3,none⟩ (.slice of2 fn cf2)) ⟨cb,4,none⟩ (.bool q)
 have hk4:=((k1.trans k2 fun _ _ e=>e).trans k3 fun _ _ e=>e).trans k4 fun _ _ e=>e
 have HK4:=zL8 hk4
 clear t1 e1 t2 e2 t3 e3 t4 e4 hk4 hK k1 k2 k3 k4 hfst
 go_upto_region 5 with fail
 obtain⟨W4,hW⟩: ∃V,(((w3.setCell ⟨cb,1,none⟩ (.slice oc2 n cc2)).setCell ⟨cb,2,none⟩ (.slice ot2 rn ct2)).setCell ⟨cb,3,none⟩ (.slice of2 fn cf2)).setCell ⟨cb,4,none⟩ (.bool q)=V:=⟨_,rfl⟩
 rw[hW]at HT4 HK4 ⊢
 clear hW f1 f2 f3 f4 fz hcl
 have HSP:=zL8 (zFV W4)
 have hcl:=HT4.out.bk.lt
 go_wp2_with fail
 refine HSP.out.mono ?_;rintro e w5 ⟨rfl,hsp,hb5⟩
 obtain⟨sb,hsb⟩: ∃sb,W4.heap.size=sb:=⟨_,rfl⟩
 rw[hsb]at hsp ⊢
 have HO:Hid (c<mp∧mp<cb∧cb<base∧cb<sb∧base≤sb):=zL8 (by
  have:=HCL.out;have:=HMQ.out;have:=HQC.out;have:=HCB.out;have:=HK4.out.size;have:=HBW3.out;omega)
 obtain⟨L4,hL4⟩: ∃L,(((((zE0 wb qb++[(6,Value.map (some mp))]).set 1 (1,.slice oc2 n cc2)).set 2 (2,.slice ot2 rn ct2)).set 3 (3,.slice of2 fn cf2)).set 4 (4,.bool q))=L:=⟨_,rfl⟩
 have g0:L4[0]?=some (0,.pointer none):=by rw[←hL4];rfl
 have g1:L4[1]?=some (1,.slice oc2 n cc2):=by rw[←hL4];rfl
 have g6:L4[17]?=some (6,.map (some mp)):=by rw[←hL4];rfl
 have g7:L4[7]?=some (9,.pointer none):=by rw[←hL4];rfl
 rw[hL4]at HT4 HE4
 have HL4:=zL8 hL4
 have HN5:Hid (NeG w5 cb mp sb base oc2 n cc2 ks L4):=zL8 ⟨HT4.out.same (hb5.block cb HT4.out.bk.lt) hb5.size,hsp,(HM4.out.block (HK4.out.block mp HM4.out.lt (by have:=HO.out;omega))).block (hb5.block mp (zMB HM4.out.lt HK4.out.size)),
  (HCM.out.kb (w':=W4) ⟨HK4.out.size,fun k h1 h2=>HK4.out.block k h2 (by have:=HO.out;omega)⟩).kb (.below hb5),HO.out.2.1,HO.out.2.2.1,HO.out.2.2.2.1⟩
 have HB5:Hid (Below c w w5):=zL8 ((HB4.out.trans (HK4.out.below (k:=c) (by have:=HT3.out.bk.lt;have:=HO.out;omega) fun j hj e=>by have:=HO.out;omega)).trans (hb5.mono (by have:=HO.out;omega)))
 clear hsp hb5 HT4 HT3 HB4 HK4 HSP hcl hL4 hsb HCB HCM HM4 HBW3
 have f0:=HN5.out.tb.bk.get 0 g0
 have z0:=HN5.out.tb.bk.fz 0
 have hcl:=HN5.out.tb.bk.lt
 have hK:[0,1,2,3,4,5,8,9,122,266,267,268,269,270,271,272,273,6].Nodup:=by decide
 obtain⟨t6,e6⟩:=HN5.out.tb.putK HE4.out hK 0 g0 (.pointer (some ⟨sb,0,none⟩))
 have k6:=zAb.setCell w5 ⟨cb,0,none⟩ (.pointer (some ⟨sb,0,none⟩))
 have g1':(L4.set 0 (0,.pointer (some ⟨sb,0,none⟩)))[1]?=some (1,.slice oc2 n cc2):=by rw[List.getElem?_set_ne (by decide)];exact g1
 have g6':(L4.set 0 (0,.pointer (some ⟨sb,0,none⟩)))[17]?=some (6,.map (some mp)):=by rw[List.getElem?_set_ne (by decide)];exact g6
 have g7':(L4.set 0 (0,.pointer (some ⟨sb,0,none⟩)))[7]?=some (9,.pointer none):=by rw[List.getElem?_set_ne (by decide)];exact g7
 have HN6:=zL8 (HN5.out.tbl k6 t6)
 have HE6:=zL8 e6
 have HB6:=zL8 (HB5.out.setCell (p:=⟨cb,0,none⟩) (by show c≤cb;have:=HO.out;omega) (.pointer (some ⟨sb,0,none⟩)))
 have G1:=zL8 g1'
 have G6:=zL8 g6'
 have G7:=zL8 g7'
 clear hK t6 e6 k6 g0 g1 g6 g7 g1' g6' g7' HN5 HB5
 go_upto_region 6 with fail
 obtain⟨W6,hW⟩: ∃V,w5.setCell ⟨cb,0,none⟩ (.pointer (some ⟨sb,0,none⟩))=V:=⟨_,rfl⟩
 rw[hW]at HN6 HB6 ⊢
 clear hW f0 z0 hcl HE4
 have f1:=HN6.out.tb.bk.get 1 G1.out
 have hcl:=HN6.out.tb.bk.lt
 have HGA:=zL8 (zKN (w:=W6) HN4.out)
 go_wp2_with fail
 refine HGA.out.mono ?_;rintro e w7 ⟨⟨gb,rfl⟩,hb7⟩
 have HN7:=zL8 (HN6.out.below hb7)
 have HB7:=zL8 (HB6.out.trans (hb7.mono (by have:=HN6.out.tb.bk.lt;have:=HO.out;omega)))
 clear hb7 f1 hcl HGA HN6 HB6
 have f9:=HN7.out.tb.bk.get 7 G7.out
 have z9:=HN7.out.tb.bk.fz 9
 have hcl:=HN7.out.tb.bk.lt
 have hK:[0,1,2,3,4,5,8,9,122,266,267,268,269,270,271,272,273,6].Nodup:=by decide
 obtain⟨t8,e8⟩:=HN7.out.tb.putK HE6.out hK 7 G7.out (.pointer (some ⟨gb,0,none⟩))
 have k8:=zAb.setCell w7 ⟨cb,9,none⟩ (.pointer (some ⟨gb,0,none⟩))
 have HN8:=zL8 (HN7.out.tbl k8 t8)
 have HB8:=zL8 (HB7.out.setCell (p:=⟨cb,9,none⟩) (by show c≤cb;have:=HO.out;omega) (.pointer (some ⟨gb,0,none⟩)))
 have g1:((L4.set 0 (0,.pointer (some ⟨sb,0,none⟩))).set 7 (9,.pointer (some ⟨gb,0,none⟩)))[1]?=some (1,.slice oc2 n cc2):=by rw[List.getElem?_set_ne (by decide)];exact G1.out
 have g6:((L4.set 0 (0,.pointer (some ⟨sb,0,none⟩))).set 7 (9,.pointer (some ⟨gb,0,none⟩)))[17]?=some (6,.map (some mp)):=by rw[List.getElem?_set_ne (by decide)];exact G6.out
 have G1:=zL8 g1
 have G6:=zL8 g6
 clear hK t8 e8 k8 g1 g6
 go_upto_region 7 with fail
 obtain⟨W8,hW⟩: ∃V,w7.setCell ⟨cb,9,none⟩ (.pointer (some ⟨gb,0,none⟩))=V:=⟨_,rfl⟩
 rw[hW]at HN8 HB8 ⊢
 clear hW f9 z9 hcl HN7 HB7
 obtain⟨L5,hL5⟩: ∃L,(L4.set 0 (0,.pointer (some ⟨sb,0,none⟩))).set 7 (9,.pointer (some ⟨gb,0,none⟩))=L:=⟨_,rfl⟩
 rw[hL5]at HN8 G1 G6
 have HL5:=zL8 hL5
 clear hL5
 have f1:=HN8.out.tb.bk.get 1 G1.out
 have hcl:=HN8.out.tb.bk.lt
 go_wp2_with fail
 clear f1 hcl HE6 G7
 go_loopg [57] (n+1) (fun gk kv wr=> ∃i:Nat,kv= .int .i64 (i:Nat)∧gk=n+1 - i∧i≤n∧NeG wr cb mp sb base oc2 n cc2 ks L5∧Below c w wr)
 case atStart=>exact⟨0,rfl,rfl,Nat.zero_le _,HN8.out,HB8.out⟩
 case round=>
 obtain⟨i,rfl,hgk,hin,hne,hbw⟩:=hrel
 have HGK:=zL8 hgk
 have HIN:=zL8 hin
 have HN:=zL8 hne
 have HBW:=zL8 hbw
 clear hgk hin hne hbw HN8 HB8
 by_cases hi:i<n
 ·have hi':(i:Int)<(n:Int):=by omega
  obtain⟨xs,hxo,hxk⟩:=HN.out.cm
  rw[HKN.out]at hxo
  obtain⟨_,g,rfl,hg,hgc,_⟩:=zAZ hxo (by omega)
  obtain⟨kk,hki⟩: ∃kk,ks[i]?=some kk:=⟨_,zMP (by rw[HKN.out];exact hi)⟩
  obtain⟨l2,u2,u5,u10,hcl2,hsub,h2,h5,h10,m2,m5,m10⟩:=hxk i kk hki
  obtain⟨ra,rb,R,hkk,hlen,hka,hkb,hkR⟩:=HKR.out kk (zMc hki)
  obtain⟨o2,q2,rfl⟩:=zAI m2
  obtain⟨o5,q5,rfl⟩:=zAI m5
  obtain⟨o10,q10,rfl⟩:=zAI m10
  have HD2:Hid (NdR wr base o2 kk.n2 q2):=zL8 (by rw[hkk]at m2 ⊢;exact⟨ra,rfl,hlen.1,hka,m2⟩)
  have HD5:Hid (NdR wr base o5 kk.n5 q5):=zL8 (by rw[hkk]at m5 ⊢;exact⟨rb,rfl,hlen.2.1,hkb,m5⟩)
  have HD10:Hid (NdR wr base o10 kk.n10 q10):=zL8 (by rw[hkk]at m10 ⊢;exact⟨R,rfl,hlen.2.2,hkR,m10⟩)
  have hrg:wr.rangeAt g (i*272) l2:=fun j v hv=>by
   have h1:=hsub j v hv
   have hjx:i*272+j<xs.length:=(zMF.1 h1).1
   obtain⟨u,hu,hcu⟩:=hgc (i*272+j) (by rw[hxo.1]at hjx;omega)
   rw[h1]at hu
   cases hu
   exact hcu
  have HRG:=zL8 hrg
  have HCI:Hid ((Tryz.prog.info? 71).map (·.size)=some l2.length):=zL8 (by rw[hcl2.len];exact zAd)
  have HSZ:=zL8 (zA2 hcl2)
  have HSO:Hid (Tryz.zeroCells71.size=l2.toArray.size):=zL8 (by rw[←Array.length_toList,List.size_toArray,zAo,hcl2.len])
  have HON:Hid (l2.toArray.all (·.oneCell')=true):=zL8 (by rw[←Array.all_toList,List.all_eq_true];simpa using hcl2.one)
  have HHN:=zL8 (zML wr (.cells Tryz.zeroCells71 71))
  have hbe:Below wr.heap.size wr ((wr.alloc (.cells Tryz.zeroCells71 71)).setRow wr.heap.size l2.toArray):=zAv ((zL9 _ _).alloc (zMA _) _) (zMA _) _
  have HE:Hid (CmB ((wr.alloc (.cells Tryz.zeroCells71 71)).setRow wr.heap.size l2.toArray) wr.heap.size l2):=zL8 ⟨setRow_heap _ _ _ _ _ _ HHN.out,hcl2⟩
  have HN1:=zL8 (HN.out.below hbe)
  have HB1:=zL8 (HBW.out.trans (hbe.mono (by have:=HN.out.tb.bk.lt;have:=HO.out;omega)))
  have HK1:Hid (Kb base wr ((wr.alloc (.cells Tryz.zeroCells71 71)).setRow wr.heap.size l2.toArray)):=zL8 (.below hbe)
  have H2:=zL8 (And.intro h2 (And.intro h5 h10))
  have HI:=zL8 hi
  clear hxo hxk hgc hki hcl2 hsub h2 h5 h10 m2 m5 m10 hkk hlen hka hkb hkR hrg hbe hi
  go_upto_region 10 with (first|refine wpList_load_mid rfl 71 _ rfl g (i*272) rfl l2 _ HRG.out Tryz.underlying71 rfl HCI.out ?_|refine wpList_store_row rfl 71 _ _ rfl wr.heap.size l2.toArray rfl rfl _ _ HHN.out HSZ.out HSO.out HON.out ?_)
  obtain⟨X1,hX⟩: ∃X,(wr.alloc (.cells Tryz.zeroCells71 71)).setRow wr.heap.size l2.toArray=X:=⟨_,rfl⟩
  rw[hX]at HE HN1 HB1 HK1 ⊢
  have HD2':=zL8 (HD2.out.kb HK1.out)
  have HD5':=zL8 (HD5.out.kb HK1.out)
  have HD10':=zL8 (HD10.out.kb HK1.out)
  obtain⟨e,he⟩: ∃e,wr.heap.size=e:=⟨_,rfl⟩
  rw[he]at HE ⊢
  clear hX he HRG HHN HSO HON HD2 HD5 HD10 hg HK1 HN HBW
  have k2:=(HE.out.cell 2).trans H2.out.1
  have k5:=(HE.out.cell 5).trans H2.out.2.1
  have k10:=(HE.out.cell 10).trans H2.out.2.2
  have hel:=HE.out.lt
  go_wp2_with fail
  have hbx:Below X1.heap.size X1 (X1.alloc (.cells #[.slice o10 kk.n10 q10,.slice o2 kk.n2 q2,.slice o5 kk.n5 q5] 64)):=(zL9 _ _).alloc (zMA _) _
  have hq: ∀j,j<3→ ∃oj nj qj,(X1.alloc (.cells #[.slice o10 kk.n10 q10,.slice o2 kk.n2 q2,.slice o5 kk.n5 q5] 64)).cell? ⟨X1.heap.size,j,none⟩=some (.slice oj nj qj)∧NdR X1 base oj nj qj:=fun j hj=>by
   rcases(show j=0∨j=1∨j=2 by omega)with rfl|rfl|rfl
   ·exact⟨_,_,_,zAL _ _ _ 0,HD10'.out⟩
   ·exact⟨_,_,_,zAL _ _ _ 1,HD2'.out⟩
   ·exact⟨_,_,_,zAL _ _ _ 2,HD5'.out⟩
  have HQ:Hid (∀j,j<3→ ∃oj nj qj,(X1.alloc (.cells #[.slice o10 kk.n10 q10,.slice o2 kk.n2 q2,.slice o5 kk.n5 q5] 64)).cell? ⟨X1.heap.size,j,none⟩=some (.slice oj nj qj)∧NdR (X1.alloc (.cells #[.slice o10 kk.n10 q10,.slice o2 kk.n2 q2,.slice o5 kk.n5 q5] 64)) base oj nj qj):=zL8 fun j hj=>by
   obtain⟨oj,nj,qj,h1,h2⟩:=hq j hj
   exact⟨oj,nj,qj,h1,h2.kb (.below hbx)⟩
  have HXL:=zL8 (zAl X1 (.cells #[.slice o10 kk.n10 q10,.slice o2 kk.n2 q2,.slice o5 kk.n5 q5] 64))
  have HN2:=zL8 (HN1.out.below hbx)
  have HB2:=zL8 (HB1.out.trans (hbx.mono (by have:=HN1.out.tb.bk.lt;have:=HO.out;omega)))
  have HBX:Hid (base≤X1.heap.size):=zL8 (by have:=HE.out.lt;obtain⟨xs,h1,_⟩:=HN1.out.cm;rw[HKN.out]at h1;obtain⟨_,g',e',hg',_⟩:=zAZ h1 (by have:=HI.out;omega);have:=(World.ownsRow.lt h1 g' (by rw[e'];rfl)).1;omega)
  obtain⟨X2,hX⟩: ∃X,X1.alloc (.cells #[.slice o10 kk.n10 q10,.slice o2 kk.n2 q2,.slice o5 kk.n5 q5] 64)=X:=⟨_,rfl⟩
  rw[hX]at HQ HXL HN2 HB2 ⊢
  obtain⟨r,hr⟩: ∃r,X1.heap.size=r:=⟨_,rfl⟩
  rw[hr]at HQ HXL HBX ⊢
  clear hX hr hq hbx k2 k5 k10 hel HE HN1 HB1 H2 HD2' HD5' HD10'
  go_loopg [72] 4 (fun gk kv wr=> ∃j:Nat,kv= .int .i64 (j:Nat)∧gk=4 - j∧j≤3∧NeG wr cb mp sb base (some ⟨g,0,none⟩) n cc2 ks L5∧Below c w wr∧Kb base X2 wr)
  case atStart=>exact⟨0,rfl,rfl,by decide,HN2.out,HB2.out,zMA _,fun _ _ _=>rfl⟩
  case round=>
  obtain⟨j,rfl,hgk,hj,hne,hbw,hkb⟩:=hrel
  have HGK2:=zL8 hgk
  have HJ:=zL8 hj
  have HN:=zL8 hne
  have HBW:=zL8 hbw
  have HKB:=zL8 hkb
  clear hgk hj hne hbw hkb
  by_cases hj3:j<3
  ·have hj':(j:Int)<3:=by omega
   obtain⟨oj,nj,qj,h1,h2⟩:=HQ.out j hj3
   have kj:wr.cell? ⟨r,j,none⟩=some (.slice oj nj qj):=(zMC (a:=⟨r,j,none⟩) (HKB.out.2 r HBX.out HXL.out)).trans h1
   have hrl:r<wr.heap.size:=zMB HXL.out HKB.out.1
   have HDJ:=zL8 (h2.kb HKB.out)
   have HJ3:=zL8 hj3
   clear h1 h2 hj3
   by_cases hn0:nj=0
   ·have hn0': ¬(0:Int)<(nj:Int):=by omega
    clear hn0
    go_wp2_with fail
    go_roundg (4 - (j+1))
    case measure=>have:=HGK2.out;have:=HJ3.out;omega
    case rel=>exact⟨j+1,by go_num,rfl,by have:=HJ3.out;omega,HN.out,HBW.out,HKB.out⟩
   ·have hn0':(0:Int)<(nj:Int):=by omega
    clear hn0
    have f6:=HN.out.tb.bk.get 17 G6.out
    have hcl:=HN.out.tb.bk.lt
    have HD0:Hid (Below wr.heap.size wr wr.drew):=zL8 (zL9 _ _).drew
    have HKY:=zL8 (zHv (w:=wr.drew) (i:=i) (j:=j) (by have:=HI.out;have:=HN4.out;omega) (by have:=HJ3.out;omega))
    have HDR:=zL8 ((HDJ.out.kb (.below HD0.out)).call)
    have HND:=zL8 (HN.out.below HD0.out)
    go_upto_region 14 with fail
    refine zAA (X:=none) 12 [([0,1,2,3,4,5,7],6),([],8)] [9,10,11] (by kernel_rfl) (by kernel_rfl) rfl (fun _ _ _ _ _ h=>h) ?_
    simp only[zAJ,zAC,zAG,zAD,zAB,List.getD_cons_zero,List.getD_cons_succ,List.drop_succ_cons,List.drop_zero]
    repeat (go_big_quiet_step (fail))
    refine wpQuiet_nil ?_
    go_wp2_with fail
    refine HKY.out.mono ?_;rintro e wk ⟨⟨v,rfl⟩,hwk⟩
    subst hwk
    dsimp only
    go_wp2_with fail
    refine⟨zAP.refl _,?_⟩
    repeat (go_big_quiet_step (fail))
    refine wpQuiet_nil ?_
    go_wp2_with fail
    refine HDR.out.mono ?_;rintro e wm ⟨⟨p,er,rfl⟩,hb⟩
    have HBM:=zL8 hb
    have HNM:=zL8 (HND.out.below hb)
    clear hb HDR HKY HND f6 hcl
    dsimp only
    go_wp2_with fail
    refine⟨zAP.of_below HBM.out,?_⟩
    repeat (go_big_quiet_step (fail))
    refine wpQuiet_nil ?_
    go_wp2_with (refine zFO rfl _ _ _ rfl rfl rfl rfl HNM.out.ma ?_)
    intro wn hmn hkn
    have HN9:=zL8 (HNM.out.put hkn hmn)
    have HB9:Hid (Below c w wn):=zL8 (((HBW.out.trans (HD0.out.mono (by have:=HN.out.tb.bk.lt;have:=HO.out;omega))).trans (HBM.out.mono (by have h2:wr.drew.heap.size=wr.heap.size:=rfl;have:=HN.out.tb.bk.lt;have:=HO.out;omega))).trans (hkn.below (k:=c) (by have:=HNM.out.tb.bk.lt;have:=HO.out;omega) fun j hj e=>by have:=HO.out;omega))
    have HK9:Hid (Kb base X2 wn):=zL8 ((HKB.out.trans (Kb.below (HD0.out.trans (HBM.out.mono (zMA _))))).trans ⟨hkn.size,fun k h1 h2=>hkn.block k h2 (by have:=HO.out;omega)⟩)
    have hj4:(j:Int)≤3:=by have:=HJ3.out;omega
    clear hmn hkn
    go_wp2_with fail
    go_roundg (4 - (j+1))
    case measure=>have:=HGK2.out;have:=HJ3.out;omega
    case rel=>exact⟨j+1,by go_num,rfl,by have:=HJ3.out;omega,HN9.out,HB9.out,HK9.out⟩
  have hj': ¬(j:Int)<3:=by omega
  have hn4:(n:Int)≤4096:=by have:=HN4.out;omega
  have hi4:(i:Int)≤4096:=by have:=HI.out;omega
  clear hj3
  go_wp2_with fail
  go_roundg (n+1 - (i+1))
  case measure=>have:=HGK.out;have:=HI.out;omega
  case rel=>exact⟨i+1,by go_num,rfl,by have:=HI.out;omega,HN.out,HBW.out⟩
 obtain rfl:i=n:=by have:=HIN.out;omega
 clear hi
 have hii: ¬(i:Int)<(i:Int):=by omega
 obtain⟨k0,hk0⟩: ∃k0:CK,k0=⟨sb,wb,qb,gb,0,cb,0,oc2,i,cc2,q⟩:=⟨_,rfl⟩
 have hmem: ∀p∈zDl k0 ⟨false,-1,0,0,0,false⟩,p∈L5:=by
  rw[←HL5.out,←HL4.out,hk0]
  intro p hp
  simp only[zDl,zCX,zE0,List.set_cons_zero,List.set_cons_succ,List.cons_append,List.nil_append,List.mem_cons,List.not_mem_nil,or_false]at hp ⊢
  rcases hp with h|h|h|h|h|h|h|h|h|h|h|h|h|h|h<;>simp[h]
 have hT:TbP wr k0.cb (zDl k0 ⟨false,-1,0,0,0,false⟩):=by
  rw[hk0]at hmem ⊢
  exact⟨⟨HN.out.tb.bk.lt,fun p hp=>HN.out.tb.bk.fx p (hmem p hp),HN.out.tb.bk.fz⟩,HN.out.tb.ex⟩
 have HTB:=zL8 (zDq hT)
 rw[show k0.cb=cb by rw[hk0]]at HTB
 have HK0:=zL8 hk0
 clear hk0 hmem hT
 go_wp2_with fail
 refine HTB.out.mono ?_;rintro e w9 ⟨rfl,hbk,hkt⟩
 have HBK:=zL8 hbk
 have HKT:=zL8 hkt
 clear hbk hkt HTB
 go_wp2_with fail
 go_ret2
 obtain rfl:=HK0.out
 have hbk:=HBK.out
 have hkt:=HKT.out
 have hba:Below w9.heap.size w9 (w9.alloc (.cells #[.pointer (some ⟨cb,0,none⟩)] 54)):=(zL9 _ _).alloc (zMA _) _
 have hbk2:=hbk.same (hba.block cb hbk.lt) hba.size
 have hsp:BkV w9 sb spL:=HN.out.sp.same (hkt.block sb HN.out.sp.lt (by have:=HO.out;omega)) hkt.size
 have hB:Below c w (w9.alloc (.cells #[.pointer (some ⟨cb,0,none⟩)] 54)):=(HBW.out.trans (hkt.below (k:=c) (by have:=HN.out.tb.bk.lt;have:=HO.out;omega) fun j hj e=>by have:=HO.out;omega)).trans (hba.mono (by have:=hbk.lt;have:=HO.out;omega))
 exact⟨.inr ⟨HGT.out,w9.heap.size,cb,sb,rfl,zAL _ _ _ 0,zAl _ _,hbk2.get 0 rfl,hbk2.get 7 rfl,hbk2.get 8 rfl,hbk2.get 10 rfl,hbk2.lt,hsp.same (hba.block sb hsp.lt) hba.size⟩,HW0.out hB⟩
end
end
end Go.Proofs.YtfcemodgopdkkaaGreatDoor
