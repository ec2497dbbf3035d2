/- Parts: Gz Gza. -/
import Derived.Test.YtfjbnpdffillbaaGreatDoorQ41
import Derived.Test.YtfjbnpdffillbaaGreatDoorQ1
namespace Go.Proofs.YtfjbnpdffillbaaGreatDoor
open Go.RowKit
def opAt (n:Nat) (op:Nat→Bool) (x:Int):Bool:=decide (0≤x∧x<(n:Int))&&op x.toNat
theorem opAt_in {n:Nat} {op:Nat→Bool} {i:Nat} (hi:i<n):opAt n op (i:Int)=op i:=by
 unfold opAt
 rw[decide_eq_true (by omega),Bool.true_and,Int.toNat_natCast]
theorem opAt_out {n:Nat} {op:Nat→Bool} {x:Int} (h:x<0∨(n:Int)≤x):opAt n op x=false:=by
 unfold opAt
 rw[decide_eq_false (by omega),Bool.false_and]
theorem opAt_set {n:Nat} {op:Nat→Bool} {i:Nat} (hi:i<n) (b:Bool) (y:Int):opAt n (fun j=>if j=i then b else op j) y=if y=(i:Int)then b else opAt n op y:=by
 by_cases hy:0≤y∧y<(n:Int)
 ·obtain⟨k,rfl⟩: ∃k:Nat,y=(k:Nat):=⟨y.toNat,by omega⟩
  rw[opAt_in (by omega),opAt_in (by omega)]
  by_cases hk:k=i
  ·rw[if_pos hk,if_pos (by omega)]
  ·rw[if_neg hk,if_neg (by omega)]
 ·rw[opAt_out (by omega),opAt_out (by omega),if_neg (by omega)]
def takesI (n:Nat) (x ka na kb nb:Int) (nt:Bool) (line:Int) (last opened hit:Bool):Bool × Bool × Bool:=if 0≤x∧x<(n:Int)then takesS ka na kb nb nt line last opened hit else(false,false,false)
def askedI (n:Nat) (x ka na:Int) (ra:List Nd) (kb nb:Int) (rb:List Nd) (opened:Bool):Option Ad:=if 0≤x∧x<(n:Int)then askedA ka na ra kb nb rb opened else none
section
variable {w:World} {gb bb n:Nat} {op:Nat→Bool} {ka na:Int} {oa:Option Addr} {ca:Nat} {kb nb:Int} {ob:Option Addr} {cb:Nat} {nt:Bool} {cs:Array Value} {tb rc:Nat} {ro:Option Addr} {RL:List Bool}
set_option maxRecDepth 100000 in
set_option maxHeartbeats 1600000 in
theorem gopen_any (h:GtS w gb bb n op) (x:Int):
  Calls Tryz.prog 42 #[.pointer (some ⟨gb,0,none⟩),.int .i64 x] w fun e w'=>e= .returned (.bool (opAt n op x))∧w=w':=by
 by_cases h0:x<0
 ·have h0': ¬0≤x:=by omega
  rw[opAt_out (.inl h0)]
  go_enter Tryz.func42,Tryz.ntmps42
  go_wp2_with fail
  go_ret
  exact⟨rfl,rfl⟩
 by_cases h1:(n:Int)≤x
 ·have h0':0≤x:=by omega
  have h1': ¬x<(n:Int):=by omega
  rw[opAt_out (.inr h1)]
  have c0:=h.c0
  have hl:=h.nl
  clear h
  go_enter Tryz.func42,Tryz.ntmps42
  go_wp2_with fail
  go_ret
  exact⟨rfl,rfl⟩
 obtain⟨i,rfl⟩: ∃i:Nat,x=(i:Nat):=⟨x.toNat,by omega⟩
 rw[opAt_in (by omega)]
 exact open_call h (by omega)
theorem takes_any {ra rb:List Nd} (hc:CmdV cs ka na oa ra.length ca kb nb ob rb.length cb nt) (hg:GtS w gb bb n op) (x:Int) (ht:TlS w tb ro rc RL) (ha:AskS w tb w.heap.size none) (n1:tb≠gb) (n2:tb≠bb) (n3: ∀g o,ro=some ⟨g,o,none⟩→0<RL.length→g≠bb)
  (hsa:Src w (.slice oa ra.length ca) ra.length (ndsC ra)) (hla:ra.length*72≤140737488355328) (hsb:Src w (.slice ob rb.length cb) rb.length (ndsC rb)) (hlb:rb.length*72≤140737488355328) (line:Int) (last:Bool):
  Calls Tryz.prog 35 #[.pointer (some ⟨gb,0,none⟩),.int .i64 x,.agg cs,.int .i64 line,.bool last,.func (.func 36) #[.pointer (some ⟨tb,0,none⟩)] #[]] w fun e w'=>
   e= .returned (.tuple #[.bool (takesI n x ka na kb nb nt line last (opAt n op x) (RL.getD 0 false)).1,.bool (takesI n x ka na kb nb nt line last (opAt n op x) (RL.getD 0 false)).2.1])∧
    (∃op',GtS w' gb bb n op'∧ ∀y,opAt n op' y=if y=x then(takesI n x ka na kb nb nt line last (opAt n op x) (RL.getD 0 false)).2.2 else opAt n op y)∧RBut bb (some tb) w w'∧TlS w' tb ro rc RL∧AskS w' tb w.heap.size (askedI n x ka na ra kb nb rb (opAt n op x)):=by
 by_cases hx:0≤x∧x<(n:Int)
 ·obtain⟨i,rfl⟩: ∃i:Nat,x=(i:Nat):=⟨x.toNat,by omega⟩
  have hi:i<n:=by omega
  unfold takesI askedI
  rw[if_pos hx,if_pos hx,opAt_in hi]
  refine(takes_tell hc hg hi ht ha n1 n2 n3 hsa hla hsb hlb line last).mono ?_
  rintro e w' ⟨he,h1,h2,h3,h4⟩
  exact⟨he,⟨_,h1,fun y=>opAt_set hi _ y⟩,h2,h3,h4⟩
 ·unfold takesI askedI
  rw[if_neg hx,if_neg hx]
  refine(takes_out hg (by omega) line last).mono ?_
  rintro e w' ⟨he,hb⟩
  refine⟨he,⟨op,hg.below hb,fun y=>?_⟩,RBut.of_below hb,ht.below hb,(ha.below ht.lt hb)⟩
  by_cases hy:y=x
  ·rw[if_pos hy,hy,opAt_out (by omega)]
  ·rw[if_neg hy]
end
end Go.Proofs.YtfjbnpdffillbaaGreatDoor
namespace Go.Proofs.YtfjbnpdffillbaaGreatDoor
open Go.RowKit
theorem Two.keeps_of_rbut {b c:Nat} {w w':World} (h:RBut b (some c) w w'):Two.Keeps [b,c] w w':=
 ⟨h.size,fun a ha hX=>World.cell?_of_block (w:=w) (h.block a.block ha (by intro e;exact hX (by simp[e])) (by intro e;injection e with e;exact hX (by simp[e])))⟩
section
variable {w:World} {oa:Option Addr} {n cap:Nat}
set_option maxRecDepth 100000 in
set_option maxHeartbeats 6400000 in
theorem alone_all (hT:Tabs w) (hq:AsksW w oa n) (x:Int):
  Calls Tryz.prog 9 #[.int .i64 x,.slice oa n cap] w (fun e w'=>e= .returned (.bool true)∧Below w.heap.size w w'):=by
 have HT:=Lib.hid hT
 have HQ:=Lib.hid hq
 have hz:(n:Int)≤140737488355328:=by have:=hq.z;omega
 clear hT hq
 by_cases hlong:2147483647<n
 ·have hlong':(2147483647:Int)<(n:Int):=by omega
  go_enter Tryz.func9,Tryz.ntmps9
  go_wp2_with fail
  refine(long_call (n:Int)).mono ?_;rintro e w1 ⟨rfl,rfl⟩
  go_wp2_with fail
  go_ret
  exact⟨rfl,Below.refl _ _⟩
 have hlong': ¬(2147483647:Int)<(n:Int):=by omega
 clear hlong
 go_enter Tryz.func9,Tryz.ntmps9
 go_wp2_with fail
 refine(long_call (n:Int)).mono ?_;rintro e w1 ⟨rfl,rfl⟩
 go_wp2_with fail
 refine(gnew_call (w:=w) (n:=4) (by decide)).mono ?_;rintro e w1 ⟨gb,bb,rfl,l1,l2,hg,hb⟩
 have HG1:=Lib.hid hg
 have HB1:=Lib.hid hb
 have L1:=Lib.hid l1
 have L2:=Lib.hid l2
 clear hg hb l1 l2
 go_wp2_with fail
 refine(gnew_call (w:=w1) (n:=4) (by decide)).mono ?_;rintro e w2 ⟨hb',cb,rfl,l3,l4,hg,hb⟩
 have HTG:Hid (TwoG w.heap.size w2 gb bb hb' cb (fun _=>false) (fun _=>false)):=Lib.hid (by
  have h0:=HB1.out.size
  have h1:=HG1.out.lt
  have h2:=HG1.out.ltb
  exact⟨HG1.out.below hb,hg,L1.out,L2.out,by omega,by omega,by omega,by omega,by omega⟩)
 have HB2:=Lib.hid (HB1.out.trans (hb.mono HB1.out.size))
 clear hg hb l3 l4 HG1 HB1 L1 L2
 go_wp2_with fail
 go_loopg [9] n (fun g iv wr=> ∃(d:Nat) (op op2:Nat→Bool),iv= .int .i64 (d:Nat)∧g=n - d∧d≤n∧TwoG w.heap.size wr gb bb hb' cb op op2∧opAt 4 op x=opAt 4 op2 x∧Below w.heap.size w wr)
 case atStart=>exact⟨0,_,_,rfl,rfl,Nat.zero_le _,HTG.out,rfl,HB2.out⟩
 case round=>
  obtain⟨d,op,op2,rfl,hg,hd,htg,heq,hbe⟩:=hrel
  have HEQ:=Lib.hid heq
  have HG:=Lib.hid hg
  have HBE:=Lib.hid hbe
  have HTW:=Lib.hid htg
  clear hg htg hbe heq
  by_cases hlt:d<n
  ·have hlt':(d:Int)<(n:Int):=by omega
   have HLT:=Lib.hid hlt
   obtain⟨nb,no,rfl,nl0,hc⟩:=HQ.out.at_ (by omega)
   obtain⟨q,hra0,hq0⟩:=hc d hlt
   have HQ0:=Lib.hid hq0
   have hq:=hq0.below HBE.out
   have hra:wr.rangeAt nb (no+d*276) q.cells:=fun j v hv=>(HBE.out.cell (p:=⟨nb,no+d*276+j,none⟩) nl0).trans (hra0 j v hv)
   have nl:nb<wr.heap.size:=Nat.lt_of_lt_of_le nl0 HBE.out.size
   clear hra0 hq0 nl0
   have HRA:=Lib.hid hra
   have HQI:=Lib.hid hq
   have HQZ:=Lib.hid (show(Tryz.prog.info? 94).map (·.size)=some q.cells.length by rw[ask_info,Aq.len hq])
   have HQZ2:=Lib.hid (show(Tryz.prog.info? 94).map (·.size)=some q.cells.toArray.size by rw[ask_info,List.size_toArray,Aq.len hq])
   have HQO:=Lib.hid (show Tryz.zeroCells94.size=q.cells.toArray.size by rw[ask_size,List.size_toArray,Aq.len hq])
   have HQ1:=Lib.hid (show q.cells.toArray.all (·.oneCell')=true by rw[←Array.all_toList,List.all_eq_true];exact Aq.one hq)
   have HHN:=Lib.hid (heap_alloc_new wr (.cells Tryz.zeroCells94 94))
   clear hc hra hq hlt
   go_upto_region 10 with fail
   go_upto_region 11 with (first|refine wpList_load_mid rfl 94 _ rfl nb (no+d*276) rfl q.cells _ HRA.out Tryz.underlying94 rfl HQZ.out ?_|refine wpList_store_row rfl 94 _ _ rfl wr.heap.size q.cells.toArray rfl rfl _ _ HHN.out HQZ2.out HQO.out HQ1.out ?_)
   obtain⟨W,hW⟩: ∃W,(wr.alloc (.cells Tryz.zeroCells94 94)).setRow wr.heap.size q.cells.toArray=W:=⟨_,rfl⟩
   have HQB:Hid (QB W wr.heap.size q):=Lib.hid (QB.of HQI.out (by rw[←hW];exact setRow_heap _ _ _ _ _ _ HHN.out))
   have hbw:Below wr.heap.size wr W:=by rw[←hW];exact below_setRow ((Below.refl _ _).alloc (Nat.le_refl _) _) (Nat.le_refl _) _
   have HB:=Lib.hid (HBE.out.trans (hbw.mono HBE.out.size))
   have HTG2:=Lib.hid (HTW.out.below hbw)
   have HQ2:=Lib.hid (HQI.out.below hbw)
   have HNB:=Lib.hid (show w.heap.size≤wr.heap.size∧gb<wr.heap.size∧bb<wr.heap.size∧hb'<wr.heap.size∧cb<wr.heap.size from⟨HBE.out.size,HTW.out.g.lt,HTW.out.g.ltb,HTW.out.h.lt,HTW.out.h.ltb⟩)
   rw[hW]
   clear hW hbw HHN HQZ HQZ2 HQO HQ1 HRA HQI HBE HTW HTG HB2 nl
   obtain⟨qb,hqb⟩: ∃b,wr.heap.size=b:=⟨_,rfl⟩
   rw[hqb]at HQB HNB ⊢
   clear hqb
   have k0:=HQB.out.c0
   have k3:=HQB.out.c3
   have k6:=HQB.out.c6
   have kq:=HQB.out.lt
   go_wp2_with fail
   refine(beyond_call HQ2.out.wa HQ2.out.za).mono ?_;rintro e w3 ⟨⟨b1,rfl⟩,hb3⟩
   have HQB3:=Lib.hid (HQB.out.below hb3)
   have HTG3:=Lib.hid (HTG2.out.below hb3)
   have HQ3:=Lib.hid (HQ2.out.below hb3)
   have HB3:=Lib.hid (HB.out.trans (hb3.mono HB.out.size))
   clear hb3 HQB HTG2 HQ2 HB k0 k3 k6 kq
   have k0:=HQB3.out.c0
   have k6:=HQB3.out.c6
   have kq:=HQB3.out.lt
   cases b1 with
   |true=>
    go_wp2_with fail
    go_roundg (n - (d+1))
    case measure=>have:=HG.out;have:=HLT.out;omega
    case rel=>exact⟨d+1,op,op2,by go_num,rfl,HLT.out,HTG3.out,HEQ.out,HB3.out⟩
   |false=>
   go_wp2_with fail
   refine(beyond_call HQ3.out.wb HQ3.out.zb).mono ?_;rintro e w4 ⟨⟨b2,rfl⟩,hb4⟩
   have HQB4:=Lib.hid (HQB3.out.below hb4)
   have HTG4:=Lib.hid (HTG3.out.below hb4)
   have HQ4:=Lib.hid (HQ3.out.below hb4)
   have HB4:=Lib.hid (HB3.out.trans (hb4.mono HB3.out.size))
   clear hb4 HQB3 HTG3 HQ3 HB3 k0 k6 kq
   cases b2 with
   |true=>
    go_wp2_with fail
    go_roundg (n - (d+1))
    case measure=>have:=HG.out;have:=HLT.out;omega
    case rel=>exact⟨d+1,op,op2,by go_num,rfl,HLT.out,HTG4.out,HEQ.out,HB4.out⟩
   |false=>
   have k275:=HQB4.out.c275
   have kq:=HQB4.out.lt
   go_upto_region 14 with fail
   have hbw:Below w4.heap.size w4 ((w4.alloc (.cells #[.slice q.ro q.RL.length q.rc,.slice none 0 0] 99)).alloc (.cells #[.slice q.ro q.RL.length q.rc,.slice none 0 0] 99)):=((Below.refl _ _).alloc (Nat.le_refl _) _).alloc (by simp) _
   have hs1:=TlS.new w4 q.rc HQ4.out.row w4.heap.size
   have hs2:=TlS.new (w4.alloc (.cells #[.slice q.ro q.RL.length q.rc,.slice none 0 0] 99)) q.rc ((HQ4.out.below ((Below.refl _ _).alloc (Nat.le_refl _) (.cells #[.slice q.ro q.RL.length q.rc,.slice none 0 0] 99))).row) 0
   rw[show(w4.alloc (.cells #[.slice q.ro q.RL.length q.rc,.slice none 0 0] 99)).heap.size=w4.heap.size+1 by simp]at hs2
   have hs1':TlS ((w4.alloc (.cells #[.slice q.ro q.RL.length q.rc,.slice none 0 0] 99)).alloc (.cells #[.slice q.ro q.RL.length q.rc,.slice none 0 0] 99)) w4.heap.size q.ro q.rc q.RL∧AskS ((w4.alloc (.cells #[.slice q.ro q.RL.length q.rc,.slice none 0 0] 99)).alloc (.cells #[.slice q.ro q.RL.length q.rc,.slice none 0 0] 99)) w4.heap.size 0 none:=
    ⟨hs1.1.below ((Below.refl _ _).alloc (Nat.le_refl _) _),hs1.2.below hs1.1.lt ((Below.refl _ _).alloc (Nat.le_refl _) _)⟩
   obtain⟨V,hV⟩: ∃W,(w4.alloc (.cells #[.slice q.ro q.RL.length q.rc,.slice none 0 0] 99)).alloc (.cells #[.slice q.ro q.RL.length q.rc,.slice none 0 0] 99)=W:=⟨_,rfl⟩
   rw[hV]at hbw hs1' hs2 ⊢
   have HSS:=Lib.hid hs1'
   have HTT:=Lib.hid hs2
   have HQBv:=Lib.hid (HQB4.out.below hbw)
   have HTGv:=Lib.hid (HTG4.out.below hbw)
   have HBv:=Lib.hid (HB4.out.trans (hbw.mono HB4.out.size))
   have HQv:=Lib.hid (HQ4.out.below hbw)
   have HSB:Hid (qb<w4.heap.size):=Lib.hid HQB4.out.lt
   have hsv:w4.heap.size+1<V.heap.size:=hs2.1.lt
   obtain⟨sb,hsb⟩: ∃b,w4.heap.size=b:=⟨_,rfl⟩
   rw[hsb]at HSS HTT HSB hsv ⊢
   have HSV:=Lib.hid hsv
   clear hV hs1 hs1' hs2 hbw hsb hsv HQB4 HTG4 HB4 HQ4 k275 kq
   obtain⟨I,hI⟩: ∃I,q.I=I:=⟨_,rfl⟩
   have HI:=Lib.hid hI
   clear hI
   have HR1:Hid (∀g o,q.ro=some ⟨g,o,none⟩→0<q.RL.length→g<w.heap.size):=Lib.hid (by
    intro g o e hp
    obtain⟨g',o',e1,e2,_⟩:=HQ0.out.row hp
    rw[e]at e1
    injection e1 with e1
    injection e1 with e1
    omega)
   obtain⟨hit,hhit⟩: ∃b,q.RL.getD 0 false=b:=⟨_,rfl⟩
   have HHIT:=Lib.hid hhit
   clear hhit
   have HDR:=Lib.hid ((Below.refl V.heap.size V).drew)
   have HCP:=Lib.hid (copyCmd_call (HQv.out.below HDR.out).c)
   have HCZ:=Lib.hid (show(Tryz.prog.info? 91).map (·.size)=some q.l.length by rw[cmd_info,HQv.out.c.cl.len])
   have HRG:=Lib.hid (HQBv.out.below HDR.out).cmd
   have hmf: ∀(fn:Fn) (first cap:Array Value) (w:World),(Instr.makeFunc fn first cap).run Tryz.prog w= .ok (.func fn first cap) w:=fun _ _ _ _=>rfl
   have k0:V.cell? ⟨qb,0,none⟩=some (.int .i64 I):=by rw[HQBv.out.c0,HI.out]
   have k273:=HQBv.out.c273
   have k274:=HQBv.out.c274
   have kq:=HQBv.out.lt
   have kn1:bb≠qb:=by have:=HNB.out;omega
   have kn2:sb≠qb:=by have:=HSB.out;omega
   refine Two.wp_region_segs (X:=([bb,sb])) 18 [([0,1,2,3,6,7,8,9,10,11],4),([],5),([],12)] [13,14,15,16,17] (by kernel_rfl) (by kernel_rfl) rfl (fun _ _ _ _ _ h=>h) ?_
   simp only[Two.wpSegs,Two.pickSegs_nil,Two.pickSegs_cons,Two.pickOps_nil,Two.pickOps_cons,List.getD_cons_zero,List.getD_cons_succ,List.drop_succ_cons,List.drop_nil]
   repeat (go_big_quiet_step (fail))
   refine wpQuiet_nil ?_
   go_wp2_with (refine wpList_load_mid rfl 91 _ rfl qb 1 rfl q.l _ HRG.out Tryz.underlying91 rfl HCZ.out ?_)
   refine⟨Two.Keeps.refl _,?_⟩
   simp only[Act.put,List.setIfInBounds_toArray,List.set_cons_succ,List.set_cons_zero]
   repeat (go_big_quiet_step (fail))
   refine wpQuiet_nil ?_
   go_wp2_with fail
   refine HCP.out.mono ?_;rintro e w5 ⟨⟨L1,o1,c1,o2,c2,rfl,hl1,hv1,hna1,hnb1⟩,hb5⟩
   have HK5:=Lib.hid hb5
   have HB5d:=Lib.hid (HDR.out.trans hb5)
   have HV1:=Lib.hid hv1
   have HQB5:=Lib.hid (HQBv.out.below HB5d.out)
   have HQ5:=Lib.hid (HQv.out.below HB5d.out)
   have HTG5:=Lib.hid (HTGv.out.below HB5d.out)
   have HB5:=Lib.hid (HBv.out.trans (HB5d.out.mono HBv.out.size))
   have HS5:Hid (TlS w5 sb q.ro q.rc q.RL∧AskS w5 sb w5.heap.size none):=Lib.hid ⟨HSS.out.1.below HB5d.out,(HSS.out.2.below HSS.out.1.lt HB5d.out:AskS w5 sb 0 none)⟩
   have HT5:Hid (TlS w5 (sb+1) q.ro q.rc q.RL∧AskS w5 (sb+1) w5.heap.size none):=Lib.hid ⟨HTT.out.1.below HB5d.out,(HTT.out.2.below HTT.out.1.lt HB5d.out:AskS w5 (sb+1) 0 none)⟩
   have HT1:=Lib.hid (takes_any (w:=w5) (x:=I) HV1.out HTG5.out.g HS5.out.1 HS5.out.2 (by have:=HNB.out;have:=HSB.out;omega) (by have:=HNB.out;have:=HSB.out;omega) (fun g o e hp=>by have:=HR1.out g o e hp;have:=HTG5.out.l2;omega)
    hna1.src (by have:=HQ0.out.za;omega) hnb1.src (by have:=HQ0.out.zb;omega) q.line q.last)
   rw[HHIT.out]at HT1
   obtain⟨r,hr⟩: ∃r,takesI 4 I q.ka q.na q.kb q.nb q.nt q.line q.last (opAt 4 op I) hit=r:=⟨_,rfl⟩
   have HRE:=Lib.hid hr
   rw[hr]at HT1
   obtain⟨r1,r2,r3⟩:=r
   clear hr hb5 hl1 hv1 hna1 hnb1 HCP k0 k273 k274 kq kn1 HRG HDR HQv HQBv HTGv HBv HSS HTT
   go_wp2_with fail
   refine⟨Two.Keeps.of_below HK5.out,?_⟩
   repeat (go_big_quiet_step (fail))
   refine wpQuiet_nil ?_
   go_wp2_with fail
   refine HT1.out.mono ?_;rintro e w6 ⟨rfl,⟨op',hg6,hop6⟩,hrb,htl,hak⟩
   have HK6:=Lib.hid (Two.keeps_of_rbut hrb)
   have hN:=HNB.out
   have hSB:=HSB.out
   have hT:=HT5.out.1.lt
   have hG1:=HTG5.out.n1
   have hG2:=HTG5.out.n2
   have hG3:=HTG5.out.g.ne
   have hl1:=HTG5.out.l1
   have hl2:=HTG5.out.l2
   have hb1: ∀k,k<w5.heap.size→k≠bb→k≠sb→w6.heap[k]?=w5.heap[k]?:=fun k h1 h2 h3=>hrb.block k h1 h2 (by simpa using h3)
   have HTG6:Hid (TwoG w.heap.size w6 gb bb hb' cb op' op2):=Lib.hid ⟨hg6,HTG5.out.h.block (hb1 hb' (by omega) (by omega) (by omega)) (hb1 cb (by omega) (by omega) (by omega)) hrb.size,HTG5.out.l1,HTG5.out.l2,HTG5.out.l3,HTG5.out.l4,HTG5.out.n1,HTG5.out.n2,HTG5.out.n3⟩
   have HQB6:=Lib.hid (HQB5.out.block (hb1 qb (by omega) (by omega) (by omega)))
   have HT6:Hid (TlS w6 (sb+1) q.ro q.rc q.RL∧AskS w6 (sb+1) 0 none):=Lib.hid ⟨HT5.out.1.same (hb1 (sb+1) (by omega) (by omega) (by omega)) (fun g o e h1 h2 hp=>hb1 g h1 (by have:=HR1.out g o e hp;omega) (by have:=HR1.out g o e hp;omega)) hrb.size,(World.cell?_of_block (w:=w5) (a:=⟨sb+1,1,none⟩) (hb1 (sb+1) (by omega) (by omega) (by omega))).trans HT5.out.2⟩
   have HQ6:=Lib.hid hrb
   have HB6:=Lib.hid (RBut.toBelow2 HB5.out hrb (by omega) (by omega) HB5.out.size)
   have HOP:=Lib.hid hop6
   clear hN hSB hT hG1 hG2 hG3 hl1 hl2 hb1 hg6 hop6 hrb htl hak HT1 HS5 HT5 HTG5 HQB5 HB5 HV1
   go_wp2_with fail
   refine⟨HK6.out,?_⟩
   repeat (go_big_quiet_step (fail))
   refine wpQuiet_nil ?_
   have k0:w6.cell? ⟨qb,0,none⟩=some (.int .i64 I):=by rw[HQB6.out.c0,HI.out]
   have kq:=HQB6.out.lt
   by_cases hix:I=x
   ·have HIX:=Lib.hid hix
    rw[hix]at k0
    have hxx:(x==x)=true:=beq_self_eq_true x
    clear hix
    go_upto_region 16 with fail
    have HQ6:=Lib.hid (HQ0.out.below HB6.out)
    have HDR:=Lib.hid ((Below.refl w6.heap.size w6).drew)
    have HCP:=Lib.hid (copyCmd_call (HQ6.out.below HDR.out).c)
    have HRG:=Lib.hid (HQB6.out.below HDR.out).cmd
    have k273:=HQB6.out.c273
    have k274:=HQB6.out.c274
    have kn1:cb≠qb:=by have:=HNB.out;omega
    have kn2:sb+1≠qb:=by have:=HSB.out;omega
    clear k0
    refine Two.wp_region_segs (X:=([cb,sb+1])) 17 [([0,1,2,5,6,7,8,9,10],3),([],4),([],11)] [12,13,14,15,16] (by kernel_rfl) (by kernel_rfl) rfl (fun _ _ _ _ _ h=>h) ?_
    simp only[Two.wpSegs,Two.pickSegs_nil,Two.pickSegs_cons,Two.pickOps_nil,Two.pickOps_cons,List.getD_cons_zero,List.getD_cons_succ,List.drop_succ_cons,List.drop_nil]
    repeat (go_big_quiet_step (fail))
    refine wpQuiet_nil ?_
    go_wp2_with (refine wpList_load_mid rfl 91 _ rfl qb 1 rfl q.l _ HRG.out Tryz.underlying91 rfl HCZ.out ?_)
    refine⟨Two.Keeps.refl _,?_⟩
    simp only[Act.put,List.setIfInBounds_toArray,List.set_cons_succ,List.set_cons_zero]
    repeat (go_big_quiet_step (fail))
    refine wpQuiet_nil ?_
    go_wp2_with fail
    refine HCP.out.mono ?_;rintro e w7 ⟨⟨L2,p1,d1,p2,d2,rfl,hl1,hv1,hna1,hnb1⟩,hb7⟩
    have HK7:=Lib.hid hb7
    have HB7d:=Lib.hid (HDR.out.trans hb7)
    have HV2:=Lib.hid hv1
    have HQB7:=Lib.hid (HQB6.out.below HB7d.out)
    have HTG7:=Lib.hid (HTG6.out.below HB7d.out)
    have HB7:=Lib.hid (HB6.out.trans (HB7d.out.mono HB6.out.size))
    have HT7:Hid (TlS w7 (sb+1) q.ro q.rc q.RL∧AskS w7 (sb+1) w7.heap.size none):=Lib.hid ⟨HT6.out.1.below HB7d.out,(HT6.out.2.below HT6.out.1.lt HB7d.out:AskS w7 (sb+1) 0 none)⟩
    have HT2:=Lib.hid (takes_any (w:=w7) (x:=x) HV2.out HTG7.out.h HT7.out.1 HT7.out.2 (by have:=HNB.out;have:=HSB.out;omega) (by have:=HNB.out;have:=HSB.out;omega) (fun g o e hp=>by have:=HR1.out g o e hp;have:=HTG7.out.l4;omega)
     hna1.src (by have:=HQ0.out.za;omega) hnb1.src (by have:=HQ0.out.zb;omega) q.line q.last)
    have HRX:=HRE.out
    rw[HIX.out]at HRX
    rw[HHIT.out,←HEQ.out,HRX]at HT2
    clear HRX hb7 hl1 hv1 hna1 hnb1 HCP k273 k274 kq kn1 kn2 HRG HDR HQ6 HQB6 HTG6 HB6 HT6
    go_wp2_with fail
    refine⟨Two.Keeps.of_below HK7.out,?_⟩
    repeat (go_big_quiet_step (fail))
    refine wpQuiet_nil ?_
    go_wp2_with fail
    refine HT2.out.mono ?_;rintro e w8 ⟨rfl,⟨op2',hg8,hop8⟩,hrb,htl,hak⟩
    have HK8:=Lib.hid (Two.keeps_of_rbut hrb)
    have hN:=HNB.out
    have hSB:=HSB.out
    have hT:=HT7.out.1.lt
    have hG1:=HTG7.out.n1
    have hG2:=HTG7.out.n2
    have hG3:=HTG7.out.n3
    have hl3:=HTG7.out.l3
    have hl4:=HTG7.out.l4
    have hb1: ∀k,k<w7.heap.size→k≠cb→k≠sb+1→w8.heap[k]?=w7.heap[k]?:=fun k h1 h2 h3=>hrb.block k h1 h2 (by simpa using h3)
    have HTG8:Hid (TwoG w.heap.size w8 gb bb hb' cb op' op2'):=Lib.hid ⟨HTG7.out.g.block (hb1 gb (by omega) (by omega) (by omega)) (hb1 bb (by omega) (by omega) (by omega)) hrb.size,hg8,HTG7.out.l1,HTG7.out.l2,HTG7.out.l3,HTG7.out.l4,HTG7.out.n1,HTG7.out.n2,HTG7.out.n3⟩
    have HB8:=Lib.hid (RBut.toBelow2 HB7.out hrb (by omega) (by omega) HB7.out.size)
    have HO1:Hid (opAt 4 op' x=r3):=Lib.hid ((HOP.out x).trans (if_pos HIX.out.symm))
    have HO2:Hid (opAt 4 op2' x=r3):=Lib.hid ((hop8 x).trans (if_pos rfl))
    clear hN hSB hT hG1 hG2 hG3 hl3 hl4 hb1 hg8 hop8 hrb htl hak HT2 HT7 HTG7 HQB7 HB7 HV2
    go_wp2_with fail
    refine⟨HK8.out,?_⟩
    repeat (go_big_quiet_step (fail))
    refine wpQuiet_nil ?_
    have HC1:=Lib.hid (gopen_any HTG8.out.g x)
    have HC2:=Lib.hid (gopen_any HTG8.out.h x)
    rw[HO1.out]at HC1
    rw[HO2.out]at HC2
    go_wp2_with fail
    refine HC1.out.mono ?_;rintro e w9 ⟨rfl,rfl⟩
    go_wp2_with fail
    refine HC2.out.mono ?_;rintro e w9 ⟨rfl,rfl⟩
    go_wp2_with fail
    go_roundg (n - (d+1))
    case measure=>have:=HG.out;have:=HLT.out;omega
    case rel=>exact⟨d+1,op',op2',by go_num,rfl,HLT.out,HTG8.out,HO1.out.trans HO2.out.symm,HB8.out⟩
   ·have hbe:(I==x)=false:=beq_eq_false_iff_ne.2 hix
    have HO1:Hid (opAt 4 op' x=opAt 4 op2 x):=Lib.hid (((HOP.out x).trans (if_neg (fun e=>hix e.symm))).trans HEQ.out)
    have HC1:=Lib.hid (gopen_any HTG6.out.g x)
    have HC2:=Lib.hid (gopen_any HTG6.out.h x)
    rw[HO1.out]at HC1
    clear hix
    go_wp2_with fail
    refine HC1.out.mono ?_;rintro e w9 ⟨rfl,rfl⟩
    go_wp2_with fail
    refine HC2.out.mono ?_;rintro e w9 ⟨rfl,rfl⟩
    go_wp2_with fail
    go_roundg (n - (d+1))
    case measure=>have:=HG.out;have:=HLT.out;omega
    case rel=>exact⟨d+1,op',op2,by go_num,rfl,HLT.out,HTG6.out,HO1.out,HB6.out⟩
  ·obtain rfl:d=n:=by omega
   go_wp2_with fail
   refine(works_call (HT.out.below HBE.out)).mono ?_;rintro e w3 ⟨rfl,hb3⟩
   have HB3:=Lib.hid (HBE.out.trans (hb3.mono HBE.out.size))
   clear hb3
   go_wp2_with fail
   go_ret
   exact⟨rfl,HB3.out⟩
end
end Go.Proofs.YtfjbnpdffillbaaGreatDoor
