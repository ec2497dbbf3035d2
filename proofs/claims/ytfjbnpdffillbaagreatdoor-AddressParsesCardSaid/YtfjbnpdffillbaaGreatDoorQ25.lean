/- Parts: Ke. -/
import Derived.Test.YtfjbnpdffillbaaGreatDoorQ24
import Derived.Maps.AppendAt
set_option maxHeartbeats 3200000
set_option maxRecDepth 100000
namespace Go.Proofs.YtfjbnpdffillbaaGreatDoor
open Go.RowKit Go.Shelf
attribute [local go_sem] Oper.semAt_some
def zBV (l:List (Nat × Nat)):List Value:=l.flatMap fun r=>[.int .u8 (r.1:Nat),.int .u8 (r.2:Nat)]
theorem zBr: ∀l:List (Nat × Nat),(zBV l).length=l.length*2
 |[]=>rfl
 |r::l=>by
  have:=zBr l
  simp only[zBV,List.flatMap_cons,List.length_append,List.length_cons,List.length_nil]at this ⊢
  omega
theorem zCD (a b:List (Nat × Nat)):zBV (a++b)=zBV a++zBV b:=List.flatMap_append
theorem zHv {l:List (Nat × Nat)} {r:Nat × Nat} :(zBV (l++[r]))[l.length*2+1]?=some (.int .u8 (r.2:Nat)):=by
 rw[zCD,zP1 (by rw[zBr];omega),zBr,show l.length*2+1 - l.length*2=1 by omega]
 rfl
theorem zIc {l:List (Nat × Nat)} {r:Nat × Nat} {b:Nat} :(zBV (l++[r])).set (l.length*2+1) (.int .u8 (b:Nat))=zBV (l++[(r.1,b)]):=by
 rw[zCD,zCD,List.set_append_right _ _ (by rw[zBr];omega),zBr,show l.length*2+1 - l.length*2=1 by omega]
 rfl
theorem zN9 {α:Type} : ∀l:List α,l=[]∨ ∃a x,l=a++[x]
 |[]=> .inl rfl
 |y::l=> .inr ⟨_,_,(List.dropLast_concat_getLast (List.cons_ne_nil y l)).symm⟩
def rn (pre:List (Fin 256)):List (Nat × Nat):=zIb (zIn pre)
theorem zOE (pre:List (Fin 256)) (x:Fin 256):rn (pre++[x])=zDq (rn pre) x.val:=by
 unfold rn zIb
 rw[zER,List.foldl_append]
 rfl
theorem zLz (pre:List (Fin 256)):(rn pre).length≤pre.length:=by
 have:=zIa (zIn pre) []
 unfold rn zIb
 simpa [zIn]using this
theorem zOi (pre:List (Fin 256)): ∀r∈rn pre,r.1<256∧r.2<256:=zHN _ (fun b hb=>by
 simp only[zIn,List.mem_map]at hb
 obtain⟨a,_,rfl⟩:=hb
 exact a.isLt) [] (by simp)
theorem zI8 (w:World) (cs:List Value) (e:TypeId): ∀j u,cs[j]?=some u→(w.alloc (.cells cs.toArray e)).cell? ((⟨w.heap.size,0,none⟩:Addr).add j)=some u:=by
 intro j u hu
 have hadd:(⟨w.heap.size,0,none⟩:Addr).add j=⟨w.heap.size,j,none⟩:=by unfold Addr.add;split<;>simp_all
 rw[hadd,zPu _ _ j _ e (0,0) (zPs w _)]
 simpa using hu
theorem zJu {w:World} {base base':Nat} {e:TypeId} {size:Nat} {v:Value} {n:Nat} {xs:List Value} (h:w.ownsRow base e size v n xs) (hb:base'≤base):w.ownsRow base' e size v n xs:=by
 obtain⟨h1,h2|⟨g,cap,cur,h3,h4,h5⟩⟩:=h
 ·exact⟨h1,.inl h2⟩
 ·exact⟨h1,.inr ⟨g,cap,cur,h3,zP2 hb h4,h5⟩⟩
theorem zIl {W:World} {m k:Nat} {e:TypeId} {size:Nat} {v:Value} {xs:List Value} (h:W.ownsRow m e size v k xs): ∀j,v.ownBlock=some j→m≤j:=fun j hj=>(h.lt j hj).1
theorem zEG {W w1:World} {n₀ m B Bn:Nat} {t e:TypeId} {size:Nat} {v v':Value} {k j:Nat} {xs ys:List Value} {tmp:Obj}
  (hv:Boxed W B t v) (hrow:W.ownsRow m e size v k xs) (hm:m≤W.heap.size) (hn:n₀≤B) (hB:B<m) (hBn:Bn<m) (hne:Bn≠B)
  (hown':w1.ownsRow m e size v' j ys) (hgrow:(W.alloc tmp).grownBy w1 v.ownBlock):
  Boxed w1 B t v∧Boxed (w1.setCell ⟨B,0,none⟩ v') B t v'∧(w1.setCell ⟨B,0,none⟩ v').ownsRow m e size v' j ys∧KeepsOthers W (w1.setCell ⟨B,0,none⟩ v')∧Kp n₀ Bn W (w1.setCell ⟨B,0,none⟩ v'):=by
 have hv1:Boxed w1 B t v:=(hv.alloc tmp).kept hgrow (fun e=>by have:=zIl hrow B e.symm;omega)
 refine⟨hv1,hv1.set v',hown'.kept (grownBy_setCell' w1 B v') ?_,?_,?_,?_⟩
 ·refine .inr fun e=>?_
  have:=zIl hown' B e
  omega
 ·refine((KeepsOthers.alloc W tmp).trans (KeepsOthers.of_grownBy hgrow fun j o ej hj=>?_)).trans (KeepsOthers.setCell _ _ _)
  rcases(hrow.alloc tmp).2 with ⟨rfl,_⟩|⟨g,cap,cur,rfl,_,hgb,_⟩
  ·simp[Value.ownBlock]at ej
  ·obtain rfl:g=j:=by simpa [Value.ownBlock]using ej
   rw[hgb]at hj;cases hj;rfl
 ·refine(((zPg n₀ W).alloc (by omega) tmp).grown hgrow (by simp;omega) fun j ej=>?_).setCell (p:=⟨B,0,none⟩) hn v'
  have:=zIl hrow j ej
  omega
 ·intro o ho hc
  refine(zPp w1 ⟨B,0,none⟩ v' Bn hne).trans ((hgrow.block Bn (by simp;omega) ?_).trans ((Below.heap_alloc W tmp Bn (by omega)).trans ho))
  intro e
  have:=zIl hrow Bn e.symm
  omega
theorem zOP:(Tryz.prog.info? 168).map (fun i=>(i.zero,i.size,i.bytes))=some (some (.agg #[.int .u8 0,.int .u8 0]),2,2):=by kernel_rfl
theorem zLx (c:Cls) {w:World} (ht:zFw w):
  Calls Tryz.prog 203 #[zBE c] w fun e w'=>(∃v,e= .returned v∧w'.ownsRow w.heap.size 168 2 v c.runs.length (zBV c.runs))∧Below w.heap.size w w':=by
 have hg:2<w.heap.size:=by
  have h1:=ht 0 (by decide)
  by_cases hlt:2<w.heap.size
  ·exact hlt
  ·rw[World.cell?,Array.getElem?_eq_none (show w.heap.size≤(⟨2,0,none⟩:Addr).block by show w.heap.size≤2;omega)]at h1;cases h1
 obtain⟨i0,hi,hz0,hz1,hz2⟩:=info_parts zOP
 refine(callsIn_wide (n:=6)).1 ?_
 refine callsIn_of_wp_marks Tryz.func203 rfl trivial ?_ rfl
 simp only[Tryz.ntmps203,List.size_toArray,List.length_cons,List.length_nil,Nat.reduceAdd,Nat.reduceSub,Array.replicate_succ,Array.replicate_zero,List.push_toArray,List.append_toArray,List.nil_append,List.cons_append]
 gi_wp2_with fail
 refine⟨trivial,(callsIn_wide.2 (zKb c)).mono ?_⟩;rintro e w1 ⟨rfl,rfl⟩
 obtain⟨W0,hW0⟩: ∃W0,((w.alloc (.cells (zAS c) 76)).alloc (.cells #[.slice none 0 0] 166)).alloc (.cells (zAS c) 76)=W0:=⟨_,rfl⟩
 have hsz:W0.heap.size=w.heap.size+3:=by rw[←hW0];simp
 have hbx:W0.heap[w.heap.size+2]?=some (.cells (zAS c) 76 (0,0)):=by
  rw[←hW0]
  have:=zPs ((w.alloc (.cells (zAS c) 76)).alloc (.cells #[.slice none 0 0] 166)) (.cells (zAS c) 76)
  simpa using this
 have hl0:Boxed W0 (w.heap.size+1) 166 (.slice none 0 0):=by
  rw[←hW0]
  have:=(Boxed.new (w.alloc (.cells (zAS c) 76)) 166 (.slice none 0 0)).alloc (.cells (zAS c) 76)
  simpa using this
 have hB0:Below w.heap.size w W0:=by
  rw[←hW0]
  exact(((zPg _ w).alloc (zPh _) _).alloc (by simp) _).alloc (by simp;omega) _
 rw[show(w.alloc (.cells #[.int .u64 c.w0.toNat,.int .u64 c.w1.toNat,.int .u64 c.w2.toNat,.int .u64 c.w3.toNat] 76))=w.alloc (.cells (zAS c) 76)from rfl,hW0]
 clear hW0
 gi_wp2_with fail
 refine wpIn_rangeFunc_ownF (w0:=W0) rfl (by omega) (gf:=199) (lb:= #[.pointer (some ⟨w.heap.size+2,0,none⟩)]) rfl trivial (enters_of Tryz.func199 (by kernel_rfl) rfl)
  (zJF 5 (w.heap.size+2) w.heap.size (by omega) c W0 (by omega) (by omega) hbx (ht.below hB0) hg) (fun h k=>h.trans' k) (fun W l o o' hl ho hc=>Kp.put (w:=w) (zPh _) W l o o' (by omega) ho hc) (zPg _ _) (fun _=>rfl)
  (fun pre W=>(∃v,Boxed W (w.heap.size+1) 166 v∧W.ownsRow (w.heap.size+3) 168 2 v (rn pre).length (zBV (rn pre))∧True)∧Below w.heap.size w W∧w.heap.size+3≤W.heap.size)
  (fun _ _ _=>False)
  (OwnFrom.and (Own.from (holdsRow_own (w.heap.size+3) (w.heap.size+1) 166 168 2 (fun pre=>(rn pre).length) (fun pre=>zBV (rn pre)) (fun pre v=>True)) _) (OwnFrom.and (ownFrom_below (by omega) (by omega)) (fun s A B row hs hg hr=>zP2 hs hg.size)))
  (fun _ _ _ _ _ hs _ _=>hs)
  ⟨⟨_,hl0,zPv _ _ _ _,trivial⟩,hB0,by omega⟩
  (fun x=> { tmps:= #[zBE c,.pointer (some ⟨w.heap.size,0,none⟩),.slice none 0 0,.pointer (some ⟨w.heap.size+1,0,none⟩),.int .u8 (x.val:Nat),undef,zBE c,.func (.func 199) #[] #[.pointer (some ⟨w.heap.size+2,0,none⟩)],.int .u8 (x.val:Nat),undef,undef,undef,undef,undef,undef,undef,undef,undef,undef,undef,undef,undef,undef,undef,undef,undef,undef,undef,undef,undef,undef,undef,undef,undef,undef,undef,undef,undef],defers:=[] }) ?assign ?body ?done ?stop
 case assign=>
  intro l x W K hK
  gi_wp2
  exact hK
 case body=>
  rintro l pre x W ⟨⟨v,hv,hrow,-⟩,hB,hWs⟩ hlt
  dsimp only
  have hlt:pre.length<256:=zPi hlt (zHg c)
  have hn:=zOE pre x
  have hlen:=zLz pre
  have hfit:=zOi pre
  have hx:=x.isLt
  generalize x.val=b at hn hx ⊢
  generalize hr:rn pre=L at hrow hn hlen hfit
  have HN:=zPf hn
  have HC:=zPf hv.cell
  clear hn hr
  rcases zN9 L with rfl|⟨a,r,rfl⟩
  ·obtain⟨oa,cap,rfl⟩: ∃oa cap,v= .slice oa 0 cap:=by
    rcases hrow.2 with ⟨rfl,_⟩|⟨g,cap,cur,rfl,_⟩
    ·exact⟨_,_,rfl⟩
    ·exact⟨_,_,rfl⟩
   have hc:=HC.out
   have HM1:([]:List (Nat × Nat)).length+1≤maxLen:=by decide
   have HM2:(([]:List (Nat × Nat)).length+1)*2≤140737488355328:=by decide
   gi_wp2_with (gi_at_builtin;refine wpListIn_append_own _ rfl _ _ 166 rfl (w.heap.size+3) 168 i0 (.agg #[.int .u8 0,.int .u8 0]) 2 2 Tryz.underlying166 hi hz0 hz1 hz2 rfl (by decide) _ _ _ rfl (hrow.alloc _) ⟨W.heap.size,0,none⟩ 1 1 [.int .u8 (b:Nat),.int .u8 (b:Nat)] rfl rfl (zI8 _ [.int .u8 (b:Nat),.int .u8 (b:Nat)] _) (by simp[Value.oneCell']) HM1 HM2 (by simp;omega) ?_;intro v' w1 hown' hgrow _;obtain⟨g',cap',rfl⟩:=ownsRow_succ hown';obtain⟨hv1,hv2,hr2,hk2,hb2⟩:=zEG (n₀:=w.heap.size) (Bn:=w.heap.size+2) hv hrow hWs (by omega) (by omega) (by omega) (by omega) hown' hgrow;have hc1:=hv1.cell;have hf1:=hv1.frozen)
   exact⟨hk2,hb2,⟨_,hv2,by rw[HN.out];exact hr2,trivial⟩,hB.trans hb2.1,zP2 hWs hb2.1.size⟩
  ·rw[zPz]at hrow hlen
   obtain⟨g,cap,rfl⟩:=ownsRow_succ (k:=a.length) hrow
   have hcl:=hrow.cellAt (a.length*2+1) (by show a.length*2+1<(a.length+1)*2;omega)
   rw[zHv]at hcl
   have hfr:=hrow.frozenAt (a.length*2+1)
   have hr256:=(hfit r (by simp)).2
   have hc:=HC.out
   have hadd:zDq (a++[r]) b=if r.2+1=b then a++[(r.1,b)]else(a++[r])++[(b,b)]:=by
    unfold zDq
    simp
   by_cases hq:r.2+1=b
   ·have hq':(((r.2:Nat):Int)+1==((b:Nat):Int))=true:=by rw[beq_iff_eq];omega
    rw[if_pos hq]at hadd
    have HA:=zPf hadd
    clear hadd hq
    gi_wp2
    obtain⟨hst,hgr⟩:=hrow.stored (a.length*2+1) (.int .u8 (b:Nat))
    rw[zIc,←HA.out,←HN.out]at hst
    have hge:=zIl hrow g rfl
    have hlen2:a.length+[r].length=(rn (pre++[x])).length:=by rw[HN.out,HA.out];simp
    refine⟨KeepsOthers.setCell _ _ _,⟨(zPg w.heap.size W).setCell (p:=⟨g,a.length*2+1,none⟩) (by show w.heap.size≤g;omega) _,fun o ho _=>(zPp W ⟨g,a.length*2+1,none⟩ _ _ (by show w.heap.size+2≠g;omega)).trans ho⟩,
     ⟨_,hv.kept hgr (fun e=>by cases e;omega),by rw[←hlen2];exact hst,trivial⟩,hB.setCell (p:=⟨g,a.length*2+1,none⟩) (by show w.heap.size≤g;omega) _,zP2 hWs hgr.size⟩
   ·have hq':(((r.2:Nat):Int)+1==((b:Nat):Int))=false:=by rw[zPl];omega
    rw[if_neg hq]at hadd
    have HA:=zPf hadd
    clear hadd
    have HM1:(a.length+[r].length)+1≤maxLen:=by simp[maxLen];omega
    have HM2:((a.length+[r].length)+1)*2≤140737488355328:=by simp at hlen ⊢;omega
    gi_wp2_with (gi_at_builtin;refine wpListIn_append_own _ rfl _ _ 166 rfl (w.heap.size+3) 168 i0 (.agg #[.int .u8 0,.int .u8 0]) 2 2 Tryz.underlying166 hi hz0 hz1 hz2 rfl (by decide) _ _ _ rfl (hrow.alloc _) ⟨W.heap.size,0,none⟩ 1 1 [.int .u8 (b:Nat),.int .u8 (b:Nat)] rfl rfl (zI8 _ [.int .u8 (b:Nat),.int .u8 (b:Nat)] _) (by simp[Value.oneCell']) HM1 HM2 (by simp;omega) ?_;intro v' w1 hown' hgrow _;obtain⟨g',cap',rfl⟩:=ownsRow_succ hown';obtain⟨hv1,hv2,hr2,hk2,hb2⟩:=zEG (n₀:=w.heap.size) (Bn:=w.heap.size+2) hv hrow hWs (by omega) (by omega) (by omega) (by omega) hown' hgrow;have hc1:=hv1.cell;have hf1:=hv1.frozen)
    exact⟨hk2,hb2,⟨_,hv2,by rw[HN.out,HA.out,zCD,zPz,zPz];exact hr2,trivial⟩,hB.trans hb2.1,zP2 hWs hb2.1.size⟩
 case done=>
  rintro D ys W hD hS ⟨⟨v,hv,hrow,-⟩,hB,hWs⟩ hK
  have hc:=hv.cell
  gi_wp2
  refine⟨by simp,.inl ⟨_,_,rfl,run_takeDeferred hK,?_⟩⟩
  have hr:rn ys=c.runs:=by unfold rn Cls.runs;rw[hS]
  rw[hr]at hrow
  exact⟨_,results_tmp rfl _ _ _,⟨v,rfl,zJu (ownsRow_putObj hrow _ hK rfl) (by omega)⟩,hB.trans (belowK_b (w:=w) (zPh _) W D _ _ (by omega) hK rfl rfl)⟩
 case stop=>
  rintro D c pre W _ _ h _
  exact h.elim
end Go.Proofs.YtfjbnpdffillbaaGreatDoor
