/- Parts: Sq Syf. -/
import Derived.Test.YtfcemodgopdkkaaGreatDoorQ35
set_option maxHeartbeats 3200000
set_option maxRecDepth 100000
namespace Go.Proofs.YtfcemodgopdkkaaGreatDoor
section
open Go.RowKit
section
variable {w w' w2:World} {k:CK} {s s':CS} {T T' X:List Nat} {pk pk':Option Nat} {base:Nat} {mu:Bool} {oa:Option Addr} {m ca n n' u u' z z':Nat} {O O':Nat→Option Nat} {A A':List Nat}
theorem zHo (h:StS w k s T pk base mu oa m ca n u z O A) (hp:s.pl= -1) (hz:z≤549755813888) (hmu:mu=false→z<450) (hm:n<m) (hmz:m≤4611686018427387903) {B:Nat} (hB:B≤k.wb) {LL:List Lin} (hL:LnB w B oa LL) {l:Lin} (hl:LL[n]?=some l) (hll:l.T.length≤1048576):
  Calls Tryz.prog 11 #[.pointer (some ⟨k.mb,0,none⟩)] w fun e w'=>e= .returned (.int .i64 0)∧ ∃O' pk',StS w' k { s with fl:=false,pl:=0,nx:=0,er:=0 } l.T pk' base mu oa m ca (n+1) u (z+5) O' A∧Grw w w' (zA6 k O pk) (zA6 k O' pk'):=by
 obtain⟨fl,pl,nx,st,er,si⟩:=s
 dsimp only at hp
 subst hp
 dsimp only
 have hmf: ∀(fn:Fn) (first cap:Array Value) (w:World),(Instr.makeFunc fn first cap).run Tryz.prog w= .ok (.func fn first cap) w:=fun _ _ _ _=>rfl
 obtain⟨hs1,hg1⟩:=h.put 9 rfl (.int .i64 0) (s':=⟨fl,-1,0,st,er,si⟩) rfl
 have HS1:=zL8 hs1
 have HG1:=zL8 hg1
 have HL:Hid (LnB (w.setCell ⟨k.cb,268,none⟩ (.int .i64 0)) B oa LL):=zL8 (hL.below (hg1.kept.below (by have:=h.wl.lt;omega) fun j hj e=>by
  rcases e with e|e|e
  ·omega
  ·have:=(h.wl.footLt e).1;have:=h.blt;omega
  ·have:=h.pq e;omega))
 have HZ:=zL8 hz
 have HM:=zL8 hm
 have HMU:=zL8 hmu
 have HMZ:=zL8 hmz
 have HB:=zL8 hB
 have HLL:=zL8 hl
 have HLT:=zL8 hll
 have m0:=h.ma.m0
 have ml:=h.ma.mlt
 have c8:=h.ma.co.get 8 rfl
 have c9:=h.ma.co.get 9 rfl
 have z9:=h.ma.co.fz 268
 have hc:=h.ma.co.lt
 clear h hz hm hs1 hg1 hmu hmz hB hL hl hll
 go_enter Tryz.func11,Tryz.ntmps11
 go_upto_region 10 with fail
 obtain⟨W,hW⟩: ∃W,w.setCell ⟨k.cb,268,none⟩ (.int .i64 0)=W:=⟨_,rfl⟩
 rw[hW]at HS1 HG1 HL ⊢
 clear hW m0 ml c8 c9 z9 hc
 have c0:=HS1.out.ma.co.get 0 rfl
 have hc:=HS1.out.ma.co.lt
 have HR:=zL8 (zGp HS1.out HZ.out HMU.out HM.out HMZ.out HB.out HL.out HLL.out HLT.out)
 unfold zLL at HR
 go_wp2_with fail
 refine HR.out.mono ?_;rintro e w1 ⟨rfl,O1,pk1,hs,hg⟩
 clear HR c0
 obtain⟨hs2,hg2⟩:=hs.put 11 rfl (.int .i64 0) (s':=⟨false,-1,0,st,0,si⟩) rfl
 have HS2:=zL8 hs2
 have HG2:=zL8 ((HG1.out.trans hg).trans hg2)
 have c11:=hs.ma.co.get 11 rfl
 have z11:=hs.ma.co.fz 270
 have hc:=hs.ma.co.lt
 clear hs hg hs2 hg2
 go_upto_region 14 with fail
 obtain⟨V,hV⟩: ∃V,w1.setCell ⟨k.cb,270,none⟩ (.int .i64 0)=V:=⟨_,rfl⟩
 rw[hV]at HS2 HG2 ⊢
 clear hV c11 z11 hc HS1 HG1
 have c11:=HS2.out.ma.co.get 11 rfl
 have c9:=HS2.out.ma.co.get 9 rfl
 have hc:=HS2.out.ma.co.lt
 have HGT:=zL8 (zFA HS2.out.ma (i:=0) (Nat.zero_le _))
 go_wp2_with fail
 refine HGT.out.mono ?_;rintro e w3 ⟨rfl,hm3,hk3⟩
 obtain⟨hs3,hg3⟩:=HS2.out.mach hm3 hk3 (.inl rfl)
 have HS3:=zL8 hs3
 have HG3:=zL8 (HG2.out.trans hg3)
 clear hm3 hk3 hs3 hg3 c11 c9 hc HS2 HG2 HGT
 have c11:=HS3.out.ma.co.get 11 rfl
 have hc:=HS3.out.ma.co.lt
 go_wp2_with fail
 go_ret
 exact⟨rfl,O1,pk1,HS3.out,HG3.out⟩
theorem zI4 (h:StS w k s T pk base mu oa m ca n u z O A) (hp:s.pl=(k.nc:Nat)) (hsi:s.si=false) (hz:z≤549755813888) (hu:u≤549755813888) (hA:A.length≤274877906944):
  Calls Tryz.prog 11 #[.pointer (some ⟨k.mb,0,none⟩)] w fun e w'=>e= .returned (.int .i64 0)∧ ∃O' u',u'≤u+1∧StS w' k { s with pl:= -1,nx:= -1,er:=0 } T pk base mu oa m ca n u' (z+(T.length+8)) O' (A++bif k.q then []else T++[10])∧Grw w w' (zA6 k O pk) (zA6 k O' pk):=by
 obtain⟨fl,pl,nx,st,er,si⟩:=s
 dsimp only at hp hsi
 subst hp hsi
 obtain⟨Y,hY⟩: ∃Y,(A++bif k.q then []else T++[10])=Y:=⟨_,rfl⟩
 have HR:=zL8 (zHx h hz hu hA rfl)
 rw[hY]at HR ⊢
 dsimp only
 have HS1:=zL8 h
 have HG1:=zL8 (Grw.refl w (zA6 k O pk))
 have m0:=h.ma.m0
 have ml:=h.ma.mlt
 have c8:=h.ma.co.get 8 rfl
 have c1:=h.ma.co.get 1 rfl
 have hc:=h.ma.co.lt
 have hn:=h.ma.n01
 obtain⟨nc,hnc⟩: ∃nc,k.nc=nc:=⟨_,rfl⟩
 rw[hnc]at hn
 rw[hnc]at c1
 dsimp only at c8
 rw[hnc]at c8
 have q2:((nc:Int)== -2)=false:=zME.2 (by omega)
 have q1:((nc:Int)== -1)=false:=zME.2 (by omega)
 clear h hz hu hA hY hnc hn
 go_enter Tryz.func11,Tryz.ntmps11
 go_wp2_with fail
 refine HR.out.mono ?_;rintro e w1 ⟨rfl,O1,u1,hu1,hs,hg⟩
 have HU1:=zL8 hu1
 clear HR c1 c8 m0 ml hc hu1 q1 q2
 obtain⟨hs2,hg2⟩:=hs.put 11 rfl (.int .i64 0) (s':=⟨fl,k.nc,-1,st,0,false⟩) rfl
 have HS2:=zL8 hs2
 have HG2:=zL8 ((HG1.out.trans hg).trans hg2)
 have c11:=hs.ma.co.get 11 rfl
 have z11:=hs.ma.co.fz 270
 have hc:=hs.ma.co.lt
 clear hs hg hs2 hg2
 go_upto_region 14 with fail
 obtain⟨V,hV⟩: ∃V,w1.setCell ⟨k.cb,270,none⟩ (.int .i64 0)=V:=⟨_,rfl⟩
 rw[hV]at HS2 HG2 ⊢
 clear hV c11 z11 hc HS1 HG1
 have c11:=HS2.out.ma.co.get 11 rfl
 have c9:=HS2.out.ma.co.get 9 rfl
 have hc:=HS2.out.ma.co.lt
 obtain⟨hs3,hg3⟩:=HS2.out.put 8 rfl (.int .i64 (-1)) (s':=⟨fl,-1,-1,st,0,false⟩) rfl
 have HS3:=zL8 hs3
 have HG3:=zL8 (HG2.out.trans hg3)
 have c8:=HS2.out.ma.co.get 8 rfl
 have z8:=HS2.out.ma.co.fz 267
 clear hs3 hg3
 go_upto_region 18 with fail
 obtain⟨U,hU⟩: ∃U,V.setCell ⟨k.cb,267,none⟩ (.int .i64 (-1))=U:=⟨_,rfl⟩
 rw[hU]at HS3 HG3 ⊢
 clear hU c11 c9 c8 z8 hc HS2 HG2
 have c11:=HS3.out.ma.co.get 11 rfl
 have hc:=HS3.out.ma.co.lt
 go_wp2_with fail
 go_ret
 exact⟨rfl,O1,u1,HU1.out,HS3.out,HG3.out⟩
theorem zI5 (h:StS w k s T pk base mu oa m ca n u z O A) (hp:s.pl=0) (hn:k.nc=1) (hz:z≤549755813888) (hu:u≤549755813888) (hA:A.length≤274877906944) (hs0:0≤s.st) (hs1:s.st≤1099511627776):
  Calls Tryz.prog 11 #[.pointer (some ⟨k.mb,0,none⟩)] w fun e w'=>e= .returned (.int .i64 0)∧ ∃O',StS w' k { s with st:=s.st+1,pl:=1,nx:=1,er:=0 } T pk base mu oa m ca n (u+1) (z+(T.length+8)) O' (A++(T++[10]))∧Grw w w' (zA6 k O pk) (zA6 k O' pk):=by
 obtain⟨fl,pl,nx,st,er,si⟩:=s
 dsimp only at hp hs0 hs1
 subst hp
 obtain⟨Y,hY⟩: ∃Y,A++(T++[10])=Y:=⟨_,rfl⟩
 have HR:=zL8 (zEB h hn hz hu hA hs0 hs1)
 rw[hY]at HR ⊢
 dsimp only
 have HN:=zL8 hn
 have HS1:=zL8 h
 have HG1:=zL8 (Grw.refl w (zA6 k O pk))
 have m0:=h.ma.m0
 have ml:=h.ma.mlt
 have c8:=h.ma.co.get 8 rfl
 have c1:=h.ma.co.get 1 rfl
 have hc:=h.ma.co.lt
 rw[hn]at c1
 clear h hz hu hA hY hn hs0 hs1
 go_enter Tryz.func11,Tryz.ntmps11
 go_wp2_with fail
 refine HR.out.mono ?_;rintro e w1 ⟨rfl,O1,hs,hg⟩
 clear HR c1 c8 m0 ml hc
 obtain⟨hs2,hg2⟩:=hs.put 11 rfl (.int .i64 0) (s':=⟨fl,0,1,st+1,0,si⟩) rfl
 have HS2:=zL8 hs2
 have HG2:=zL8 ((HG1.out.trans hg).trans hg2)
 have c11:=hs.ma.co.get 11 rfl
 have z11:=hs.ma.co.fz 270
 have hc:=hs.ma.co.lt
 clear hs hg hs2 hg2
 go_upto_region 14 with fail
 obtain⟨V,hV⟩: ∃V,w1.setCell ⟨k.cb,270,none⟩ (.int .i64 0)=V:=⟨_,rfl⟩
 rw[hV]at HS2 HG2 ⊢
 clear hV c11 z11 hc HS1 HG1
 have c11:=HS2.out.ma.co.get 11 rfl
 have c9:=HS2.out.ma.co.get 9 rfl
 have hc:=HS2.out.ma.co.lt
 have HGT:=zL8 (zFA HS2.out.ma (i:=1) (by rw[HN.out];exact zMA _))
 go_wp2_with fail
 refine HGT.out.mono ?_;rintro e w3 ⟨rfl,hm3,hk3⟩
 obtain⟨hs3,hg3⟩:=HS2.out.mach hm3 hk3 (.inl rfl)
 have HS3:=zL8 hs3
 have HG3:=zL8 (HG2.out.trans hg3)
 clear hm3 hk3 hs3 hg3 c11 c9 hc HS2 HG2 HGT
 have c11:=HS3.out.ma.co.get 11 rfl
 have hc:=HS3.out.ma.co.lt
 go_wp2_with fail
 go_ret
 exact⟨rfl,O1,HS3.out,HG3.out⟩
end
end
section
open Go.RowKit
section
variable {w w':World} {base m ca:Nat} {mu:Bool} {oa:Option Addr}
theorem WlM.new {C:Array Value} (hf: ∀p∈zF4 mu oa m ca,C[p.1]?=some p.2) (h16:C[16]?=some (.int .i64 0)) (h17:C[17]?=some (.int .i64 0)) (h18:C[18]?=some (.int .i64 0)) (hr: ∀i∈zBW,C[i]?=some (.slice none 0 0)):
  WlM (w.alloc (.cells C 49)) w.heap.size base mu oa m ca 0 0 0 (fun _=>none) []:=
 ⟨zAl _ _,fun p hp=>(zAL _ _ _ _).trans (hf p hp),(zAL _ _ _ _).trans h16,(zAL _ _ _ _).trans h17,⟨0,(zAL _ _ _ _).trans h18,zMA _⟩,
  fun _ hi=>⟨.slice none 0 0,0,[],(zAL _ _ _ _).trans (hr _ hi),zMO _ _ _ _,rfl,fun _=>⟨rfl,rfl⟩,fun _=>zMA _⟩,fun _ _ _ _ _ h=>absurd rfl h,zC1 _ _ _⟩
def zFP (mu:Bool) (oa:Option Addr) (m ca:Nat):Array Value:= #[.slice oa m ca,.pointer none,.pointer none,.pointer none,.slice none 0 0,.int .i64 0,.int .i64 0,.int .i64 0,.int .i64 0,.pointer none,.slice none 0 0,.string ⟨#[]⟩,.bool mu,.bool false,.bool false,.bool false,.int .i64 0,.int .i64 0,.int .i64 0,.slice none 0 0,.string ⟨#[]⟩,.slice none 0 0,.slice none 0 0,.slice none 0 0,.slice none 0 0]
theorem WlM.anew (w:World) (base:Nat) (mu:Bool) (oa:Option Addr) (m ca:Nat):WlM (w.alloc (.cells (zFP mu oa m ca) 49)) w.heap.size base mu oa m ca 0 0 0 (fun _=>none) []:=by
 refine WlM.new (fun p hp=>?_) rfl rfl rfl fun i hi=>?_
 ·simp only[zF4,List.mem_cons,List.not_mem_nil,or_false]at hp
  rcases hp with rfl|rfl|rfl|rfl|rfl|rfl|rfl|rfl|rfl<;>rfl
 ·simp only[zBW,List.mem_cons,List.not_mem_nil,or_false]at hi
  rcases hi with rfl|rfl|rfl|rfl|rfl<;>rfl
def WkR (wr:World) (k:CK) (base:Nat) (oa:Option Addr) (i:Nat):Prop:=
 ∃s T pk n u z O A,StS wr k s T pk base false oa 1 1 n u z O A∧s.si=false∧u≤i∧z≤60*i∧T.length≤2∧
  ((i=0∧s.pl= -1∧n=0∧A=[]∧s.st=0)∨(i=1∧s.pl=0∧n=1∧A=[]∧s.st=0∧T=[97,98])∨(i=2∧s.pl=1∧n=1∧A=[97,98,10]∧s.st=1∧T=[97,98])∨
   (i=3∧s.pl= -1∧n=1∧A=[97,98,10,97,98,10]∧s.st=1∧T=[97,98])∨(i=4∧s.pl= -2∧n=1∧A=[97,98,10,97,98,10]∧s.st=1∧T=[97,98]))
theorem zJ2 {wr:World} {k:CK} {i B:Nat} (h:WkR wr k base oa i) (hi:i<4) (hn:k.nc=1) (hq:k.q=false) (hB:B≤k.wb) {l:Lin} (hL:LnB wr B oa [l]) (hl:l.T=[97,98]):
  Calls Tryz.prog 11 #[.pointer (some ⟨k.mb,0,none⟩)] wr fun e w'=>e= .returned (.int .i64 0)∧WkR w' k base oa (i+1)∧Below B wr w':=by
 obtain⟨s,T,pk,n,u,z,O,A,hs,hsi,hu,hz,hT,hc⟩:=h
 have hbel: ∀w' F',Grw wr w' (zA6 k O pk) F'→Below B wr w':=fun w' F' hg=>hg.kept.below (by have:=hs.wl.lt;omega) fun j hj e=>by
  rcases e with e|e|e
  ·omega
  ·have:=(hs.wl.footLt e).1;have:=hs.blt;omega
  ·have:=hs.pq e;omega
 rcases hc with ⟨rfl,hp,rfl,rfl,hst⟩|⟨rfl,hp,rfl,rfl,hst,rfl⟩|⟨rfl,hp,rfl,rfl,hst,rfl⟩|⟨rfl,hp,rfl,rfl,hst,rfl⟩|⟨rfl,_⟩
 ·refine(zHo hs hp (by omega) (fun _=>by omega) (by decide) (by decide) hB hL (l:=l) rfl (by rw[hl];decide)).mono ?_
  rintro e w' ⟨he,O',pk',h1,hg⟩
  exact⟨he,⟨_,_,pk',_,_,_,O',_,h1,hsi,by omega,by omega,by rw[hl];decide,.inr (.inl ⟨rfl,rfl,rfl,rfl,hst,hl⟩)⟩,hbel _ _ hg⟩
 ·refine(zI5 hs hp hn (by omega) (by omega) (by decide) (by omega) (by omega)).mono ?_
  rintro e w' ⟨he,O',h1,hg⟩
  exact⟨he,⟨_,_,pk,_,_,_,O',_,h1,hsi,by omega,by simp only[List.length_cons,List.length_nil];omega,hT,.inr (.inr (.inl ⟨rfl,rfl,rfl,rfl,by show s.st+1=1;omega,rfl⟩))⟩,hbel _ _ hg⟩
 ·refine(zI4 hs (by rw[hn];exact hp) hsi (by omega) (by omega) (by decide)).mono ?_
  rintro e w' ⟨he,O',u',hu',h1,hg⟩
  rw[hq]at h1
  exact⟨he,⟨_,_,pk,_,_,_,O',_,h1,hsi,by omega,by simp only[List.length_cons,List.length_nil];omega,hT,.inr (.inr (.inr (.inl ⟨rfl,rfl,rfl,rfl,hst,rfl⟩)))⟩,hbel _ _ hg⟩
 ·refine(zHp hs hp (by omega) (by decide)).mono ?_
  rintro e w' ⟨he,O',h1,hg⟩
  exact⟨he,⟨_,_,pk,_,_,_,O',_,h1,hsi,by omega,by omega,hT,.inr (.inr (.inr (.inr ⟨rfl,rfl,rfl,rfl,hst,rfl⟩)))⟩,hbel _ _ hg⟩
 ·omega
end
end
end Go.Proofs.YtfcemodgopdkkaaGreatDoor
