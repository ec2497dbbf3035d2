/- Parts: Rm. -/
import Derived.Test.YtmaagpbjahjmhaaGreatDoorQ10
import Derived.Laws.EntriesVeiled
set_option maxHeartbeats 1600000
set_option maxRecDepth 100000
namespace Go.Proofs.YtmaagpbjahjmhaaGreatDoor
open Go.RowKit
section
variable {rb:Nat} {ere:Bool} {mb mo cap:Nat} {L:List Mk}
theorem zKG: ∀k:Nat,k≤64→zHF rb ere mb mo cap L k∧zQM rb ere mb mo cap L k∧zKd rb ere mb mo cap L k
 |0,_=>⟨zFC,zKD zFC,zKA (zKD zFC)⟩
 |k+1,h=>by
  have ih:=zKG k (by omega)
  have hg:zHF rb ere mb mo cap L (k+1):=zLU (by omega) ih.2.2
  exact⟨hg,zKD hg,zKA (zKD hg)⟩
theorem zL3 {k:Nat} (hk:k≤64):zKd rb ere mb mo cap L k:=(zKG k hk).2.2
end
noncomputable def rdCells (ere:Bool) (mv:Value):Array Value:=(Tryz.zeroCells261.setIfInBounds 0 (.bool ere)).setIfInBounds 1 mv
theorem zCg (ere:Bool) (mv:Value):rdCells ere mv=(.bool ere::mv:: .int .i64 0:: .slice none 0 0:: .int .i64 0::List.replicate 256 .nilFunc).toArray:=by
 kernel_rfl
theorem zCI (ere:Bool) (mv:Value) (b:Nat) (hb:b<256):(rdCells ere mv)[5+b]?=some .nilFunc:=by
 rw[zCg,List.getElem?_toArray,show 5+b=b+1+1+1+1+1 by omega]
 simp only[List.getElem?_cons_succ]
 rw[List.getElem?_replicate_of_lt hb]
noncomputable def newRd (w:World) (ere:Bool) (mv:Value):World:=w.alloc (.cells (rdCells ere mv) 261)
theorem zB2 (w:World) (ere:Bool) (mv:Value) (j:Nat):(newRd w ere mv).cell? ⟨w.heap.size,j,none⟩=(rdCells ere mv)[j]?:=zQ6 _ _ j _ _ (0,0) (zQ4 w _)
theorem zKL (w:World) (ere:Bool) (mv:Value) (j:Nat):(newRd w ere mv).frozen? ⟨w.heap.size,j,none⟩=false:=zAF (zQ4 w _) j
def zHx (w:World) (rb b:Nat) (f:FuncId):World:=w.setCell ⟨rb,5+b,none⟩ (.func (.func f) #[.pointer (some ⟨rb,0,none⟩)] #[])
theorem zHZ (ere:Bool) (oa:Option Addr) (n cap:Nat) (w:World):
  Calls Tryz.prog 180 #[.bool ere,.slice oa n cap] w fun e w'=>e= .returned (.pointer (some ⟨w.heap.size,0,none⟩))∧
   w'=(let w5:=zHx (zHx (zHx (zHx (zHx (newRd w ere (.slice oa n cap)) w.heap.size 46 206) w.heap.size 91 207) w.heap.size 92 208) w.heap.size 94 209) w.heap.size 36 210
    if ere then zHx w5 w.heap.size 40 211 else w5):=by
 have hmf: ∀(fn:Fn) (first cap:Array Value) (w:World),(Instr.makeFunc fn first cap).run Tryz.prog w= .ok (.func fn first cap) w:=fun _ _ _ _=>rfl
 have h46:=(zB2 w ere (.slice oa n cap) 51).trans (zCI _ _ 46 (by decide))
 have h91:=(zB2 w ere (.slice oa n cap) 96).trans (zCI _ _ 91 (by decide))
 have h92:=(zB2 w ere (.slice oa n cap) 97).trans (zCI _ _ 92 (by decide))
 have h94:=(zB2 w ere (.slice oa n cap) 99).trans (zCI _ _ 94 (by decide))
 have h36:=(zB2 w ere (.slice oa n cap) 41).trans (zCI _ _ 36 (by decide))
 have h40:=(zB2 w ere (.slice oa n cap) 45).trans (zCI _ _ 40 (by decide))
 have hfz:=zKL w ere (.slice oa n cap)
 have hF:w.alloc (.cells ((Tryz.zeroCells261.setIfInBounds 0 (.bool ere)).setIfInBounds 1 (.slice oa n cap)) 261)=newRd w ere (.slice oa n cap):=rfl
 have hsz:(newRd w ere (.slice oa n cap)).heap.size=w.heap.size+1:=by simp[newRd]
 obtain⟨W,hW⟩: ∃W,newRd w ere (.slice oa n cap)=W:=⟨_,rfl⟩
 obtain⟨rb,hrb⟩: ∃rb,w.heap.size=rb:=⟨_,rfl⟩
 rw[hW,hrb]at h46 h91 h92 h94 h36 h40 hsz
 rw[hW]at hfz
 rw[hrb]at hfz
 have HF:=zQr hF
 have HWW:=zQr hW
 have HRB:=zQr hrb
 clear hF hW hrb
 cases ere with
 |true=>
  go_enter Tryz.func180,Tryz.ntmps180
  go_upto_region 2 with fail
  rw[HF.out,HWW.out,HRB.out]
  go_wp2_with fail
  go_ret
  rw[HWW.out,HRB.out]
  exact⟨rfl,rfl⟩
 |false=>
  go_enter Tryz.func180,Tryz.ntmps180
  go_upto_region 2 with fail
  rw[HF.out,HWW.out,HRB.out]
  go_wp2_with fail
  go_ret
  rw[HWW.out,HRB.out]
  exact⟨rfl,rfl⟩
structure zOn (w0 w:World) (rb:Nat) (ere:Bool) (mv:Value) (g:Nat→Value):Prop where
 lt:rb<w.heap.size
 b:Below rb w0 w
 c: ∀j,j<5→w.cell? ⟨rb,j,none⟩=(rdCells ere mv)[j]?
 tb: ∀b,b<256→w.cell? ⟨rb,5+b,none⟩=some (g b)
 fz: ∀o,w.frozen? ⟨rb,o,none⟩=false
theorem zOn.new (w:World) (ere:Bool) (mv:Value):zOn w (newRd w ere mv) w.heap.size ere mv (fun _=> .nilFunc) where
 lt:=by simp[newRd]
 b:=(zQs _ _).alloc (zQt _) _
 c:=fun j _=>zB2 w ere mv j
 tb:=fun b hb=>(zB2 w ere mv (5+b)).trans (zCI ere mv b hb)
 fz:=zKL w ere mv
theorem zOn.set {w0 w:World} {rb:Nat} {ere:Bool} {mv:Value} {g:Nat→Value} (h:zOn w0 w rb ere mv g) (b0:Nat) (hb0:b0<256) (f:FuncId):
  zOn w0 (zHx w rb b0 f) rb ere mv (fun b=>if b=b0 then .func (.func f) #[.pointer (some ⟨rb,0,none⟩)] #[]else g b) where
 lt:=by simpa [zHx,World.setCell]using h.lt
 b:=h.b.setCell (zQt _) _
 c:=fun j hj=>(zAG _ _ _ _ _ (by omega)).trans (h.c j hj)
 tb:=fun b hb=>by
  by_cases e:b=b0
  ·subst e
   rw[if_pos rfl]
   exact zRA _ _ _ (h.tb b hb)
  ·rw[if_neg e]
   exact(zAG _ _ _ _ _ (by omega)).trans (h.tb b hb)
 fz:=fun o=>zAM _ _ _ _ (h.fz o)
theorem zOn.rd {w0 w:World} {rb:Nat} {ere:Bool} {mb mo cap:Nat} {L:List Mk} {g:Nat→Value} (h:zOn w0 w rb ere (.slice (some ⟨mb,mo,none⟩) L.length cap) g) (hg: ∀b,b<256→g b=zDj rb ere b) (hm:zI4 w mb mo L) (hlt:mb<rb):
  RdS w rb ere mb mo cap L ⟨0,[]⟩ 64 (.slice none 0 0) where
 lt:=h.lt
 c0:=by rw[h.c 0 (by decide),zCg,List.getElem?_toArray];simp only[List.getElem?_cons_zero]
 c1:=by rw[h.c 1 (by decide),zCg,List.getElem?_toArray];simp only[List.getElem?_cons_succ,List.getElem?_cons_zero]
 c2:=by rw[h.c 2 (by decide),zCg,List.getElem?_toArray];simp only[List.getElem?_cons_succ,List.getElem?_cons_zero];rfl
 c3:=by rw[h.c 3 (by decide),zCg,List.getElem?_toArray];simp only[List.getElem?_cons_succ,List.getElem?_cons_zero]
 c4:=by rw[h.c 4 (by decide),zCg,List.getElem?_toArray];simp only[List.getElem?_cons_succ,List.getElem?_cons_zero];rfl
 tb:=fun b hb=>by rw[h.tb b hb,hg b hb]
 fz:=h.fz
 own:=zQ7 _ _ _ _
 m:=hm
 mlt:=hlt
 at_:=Nat.zero_le _
 el:=Nat.zero_le _
 kl:=zQt _
theorem zIN (ere:Bool) {mb mo cap:Nat} {L:List Mk} {w:World} (hm:zI4 w mb mo L):
  Calls Tryz.prog 180 #[.bool ere,.slice (some ⟨mb,mo,none⟩) L.length cap] w fun e w'=>e= .returned (.pointer (some ⟨w.heap.size,0,none⟩))∧RdS w' w.heap.size ere mb mo cap L ⟨0,[]⟩ 64 (.slice none 0 0)∧Below w.heap.size w w':=by
 refine(zHZ ere _ _ _ w).mono ?_
 rintro e w' ⟨rfl,rfl⟩
 refine⟨rfl,?_⟩
 have h5:=(((((zOn.new w ere (.slice (some ⟨mb,mo,none⟩) L.length cap)).set 46 (by decide) 206).set 91 (by decide) 207).set 92 (by decide) 208).set 94 (by decide) 209).set 36 (by decide) 210
 cases ere with
 |false=>
  refine⟨h5.rd (fun b hb=>?_) (hm.below h5.b) hm.lt,h5.b⟩
  simp only[zDj,zCv]
  repeat' split
  all_goals first|rfl|simp_all
 |true=>
  have h6:=h5.set 40 (by decide) 211
  refine⟨h6.rd (fun b hb=>?_) (hm.below h6.b) hm.lt,h6.b⟩
  simp only[zDj,zCv]
  repeat' split
  all_goals first|rfl|simp_all
end Go.Proofs.YtmaagpbjahjmhaaGreatDoor
