/- Parts: Kya Bl. -/
import Derived.Test.YtfjbnpdffillbaaGreatDoorQ31
namespace Go.Proofs.YtfjbnpdffillbaaGreatDoor
open Go.RowKit
theorem MkIn.made {W:World} {g:Nat} {L:List Mk} (h:W.heap[g]?=some (.cells (mksC L).toArray 131 (0,0))) (hl:L.length≤1073741824) (hu: ∀m∈L,m.b<256):MkIn W (some ⟨g,0,none⟩) L:=
 ⟨hl,fun _=>⟨g,0,rfl,(Array.getElem?_eq_some_iff.1 h).1,fun i m hi=>by
  have hc:=mksC_at L i (List.getElem?_eq_some_iff.1 hi).1
  have hm:markAt L i=m:=by unfold markAt;rw[List.getD_eq_getElem?_getD,hi];rfl
  rw[hm]at hc
  have hcell: ∀j u,(mksC L)[j]?=some u→W.cell? ⟨g,j,none⟩=some u:=fun j u hj=>by
   simp[World.cell?,h,hj]
  refine⟨?_,?_,hu m (List.mem_of_getElem? hi)⟩
  ·rw[Nat.zero_add];exact hcell _ _ hc.1
  ·rw[Nat.zero_add];exact hcell _ _ hc.2⟩⟩
theorem BtIn.made {W:World} {g:Nat} {L:List Nat} {fz:Nat × Nat} (h:W.heap[g]?=some (.cells (u8s L).toArray 5 fz)) (hl:L.length≤4294967296):BtIn W (some ⟨g,0,none⟩) L:=
 ⟨hl,fun _=>⟨g,0,rfl,(Array.getElem?_eq_some_iff.1 h).1,fun i b hi=>by
  rw[Nat.zero_add]
  simp[World.cell?,h,u8s,hi]⟩⟩
end Go.Proofs.YtfjbnpdffillbaaGreatDoor
namespace Go.Proofs.YtfjbnpdffillbaaGreatDoor
open Go.RowKit
theorem TxI.next2 {d:Nat} {L:List Mk} {w W W':World} {k b2:Nat} {o:List Nat} {v v':Value} (h:TxI d L w k o false v W) (hk:k+1<L.length) (hn:textT d false (L.drop k)=(textT d false (L.drop (k+2))).map ([92,b2]++ ·))
  (ho:W'.ownsRow w.heap.size 5 1 v' (o.length+2) (u8s o++u8s [92,b2])) (hb:Below w.heap.size w W'):TxI d L w (k+2) (o++[92,b2]) false v' W':=by
 refine⟨hk,?_,?_,hb,?_⟩
 ·have:u8s (o++[92,b2])=u8s o++u8s [92,b2]:=by simp[u8s]
  rw[this,List.length_append];exact ho
 ·have:=h.2.2.1;simp;omega
 ·rw[h.2.2.2.2,hn]
  cases textT d false (L.drop (k+2))<;>simp
set_option maxRecDepth 100000 in
set_option maxHeartbeats 6400000 in
theorem rtext_call {w:World} {L:List Mk} {oa:Option Addr} {cap:Nat} (h:MkIn w oa L) (d:Nat) (hd:d<256):
  Calls Tryz.prog 121 #[.slice oa L.length cap,.int .u8 (d:Nat)] w (textR d L w):=by
 have H:=Lib.hid h
 have hlen:=h.len
 clear h
 by_cases h1:d=92
 ·have HN:=Lib.hid (show textL d L=none by unfold textL;rw[if_pos (.inl h1)])
  subst h1
  go_enter Tryz.func121,Tryz.ntmps121
  go_wp2_with fail
  go_ret2
  exact⟨Below.refl _ _,by rw[HN.out];rfl⟩
 by_cases h2:d=10
 ·have HN:=Lib.hid (show textL d L=none by unfold textL;rw[if_pos (.inr h2)])
  subst h2
  go_enter Tryz.func121,Tryz.ntmps121
  go_wp2_with fail
  go_ret2
  exact⟨Below.refl _ _,by rw[HN.out];rfl⟩
 have HTL:=Lib.hid (show textL d L=textT d false L by unfold textL;rw[if_neg (by omega)])
 have q1:((d:Int)==92)=false:=beq_eq_false_iff_ne.2 (by omega)
 have q2:((d:Int)==10)=false:=beq_eq_false_iff_ne.2 (by omega)
 go_enter Tryz.func121,Tryz.ntmps121
 go_upto_region 3 with fail
 clear q1 q2
 go_wp2_with fail
 go_loopg [6,7] L.length (fun n ov iv wr=> ∃(k:Nat) (o:List Nat),iv= .int .i64 (k:Nat)∧n=L.length - k∧TxI d L w k o false ov wr)
 case atStart=>exact⟨0,[],rfl,rfl,Nat.zero_le _,World.ownsRow_nil _ _ _ _,by simp,Below.refl _ _,by rw[HTL.out,List.drop_zero];cases textT d false L<;>rfl⟩
 case round=>
  obtain⟨k,o,rfl,hg,hI⟩:=hrel
  have HG:=Lib.hid hg
  have HI:=Lib.hid hI
  have hkL:=hI.1
  have hol:=hI.2.2.1
  clear hg hI
  by_cases hlt:k<L.length
  ·have hlt':(k:Int)<(L.length:Int):=by omega
   obtain⟨m,hm⟩: ∃m,L[k]?=some m:=⟨_,List.getElem?_eq_getElem hlt⟩
   obtain⟨mb,mo,hoa,hml,hmc⟩:=(H.out.below HI.out.2.2.2.1).at_ (by omega)
   obtain⟨z0,z1,hb256⟩:=hmc k m hm
   have HD:=Lib.hid (show L.drop k=m::L.drop (k+1)by rw[List.drop_eq_getElem_cons hlt,(List.getElem?_eq_some_iff.1 hm).2])
   have hk64:(k:Int)+1≤9223372036854775807:=by omega
   rw[hoa]
   clear hm hmc
   obtain⟨b,p⟩:=m
   simp only at z0 z1 hb256
   have HOwn:=Lib.hid ((HI.out.2.1).alloc (.cells #[.int .u8 (b:Nat),.bool p] 131))
   have HBM:=Lib.hid (HI.out.2.2.2.1.alloc (HI.out.2.2.2.1.size) (.cells #[.int .u8 (b:Nat),.bool p] 131))
   have y0:(wr.alloc (.cells #[.int .u8 (b:Nat),.bool p] 131)).cell? ⟨wr.heap.size,0,none⟩=some (.int .u8 (b:Nat)):=by simp[go_sem]
   have y1:(wr.alloc (.cells #[.int .u8 (b:Nat),.bool p] 131)).cell? ⟨wr.heap.size,1,none⟩=some (.bool p):=by simp[go_sem]
   have yl:wr.heap.size<(wr.alloc (.cells #[.int .u8 (b:Nat),.bool p] 131)).heap.size:=by simp
   go_upto_block 2 with fail
   generalize wr.alloc (.cells #[.int .u8 (b:Nat),.bool p] 131)=W2 at HOwn HBM y0 y1 yl ⊢
   generalize wr.heap.size=B2 at y0 y1 yl ⊢
   clear z0 z1 hml
   cases p with
   |true=>
    by_cases hbd:b=d
    ·have e1:((b:Int)==(d:Int))=true:=by rw[hbd];exact beq_self_eq_true _
     have HQ:=Lib.hid hbd
     clear hbd
     go_wp2_with (at_builtin;refine wpList_app (n:=o.length) (m:=2) (news:=[.int .u8 92,.int .u8 (d:Nat)]) elU8 rfl _ _ rfl w.heap.size rfl (HOwn.out.alloc _) rfl (Src.new W2 [.int .u8 92,.int .u8 (d:Nat)] _ _ _) rfl (by simp[Value.oneCell']) (by unfold maxLen;omega) (by omega) (by have:=HBM.out.size;simp;omega) ?_)
     intro v1 w1 hown1 hgr _
     have hb1:Below w.heap.size w w1:=Below.grown (Below.alloc HBM.out HBM.out.size _) hgr (by have:=HBM.out.size;simp;omega) (fun k hk=>(HOwn.out.lt k hk).1)
     have HF:=Lib.hid (HI.out.next (W':=w1) (v':=v1) (t':=false) (n:=[92,d]) hlt (by rw[HD.out];simp[textT,HQ.out]) (by simp) (by simpa [u8s]using hown1) hb1)
     clear hown1 hgr hb1 y0 y1 yl
     go_wp2_with fail
     rw[←hoa]
     go_roundg (L.length - (k+1))
     case measure=>have:=HG.out;omega
     case rel=>exact⟨k+1,_,by go_num,rfl,HF.out⟩
    ·have e1:((b:Int)==(d:Int))=false:=beq_eq_false_iff_ne.2 (by omega)
     have HQ:=Lib.hid hbd
     clear hbd
     have HN:=Lib.hid (HI.out.stop (by rw[HD.out];simp[textT,HQ.out]))
     go_wp2_with fail
     go_ret2
     exact⟨HBM.out,by rw[HN.out];rfl⟩
   |false=>
    by_cases hbd:b=d
    ·have e1:((b:Int)==(d:Int))=true:=by rw[hbd];exact beq_self_eq_true _
     have HQ:=Lib.hid hbd
     clear hbd
     have HN:=Lib.hid (HI.out.stop (by rw[HD.out];simp[textT,HQ.out]))
     go_wp2_with fail
     go_ret2
     exact⟨HBM.out,by rw[HN.out];rfl⟩
    ·have e1:((b:Int)==(d:Int))=false:=beq_eq_false_iff_ne.2 (by omega)
     have HQ:=Lib.hid hbd
     clear hbd
     by_cases hb10:b=10
     ·have e2:((b:Int)==10)=true:=by rw[hb10];rfl
      have HQ2:=Lib.hid hb10
      clear hb10
      have HN:=Lib.hid (HI.out.stop (by rw[HD.out];simp[textT,HQ2.out]))
      go_wp2_with fail
      go_ret2
      exact⟨HBM.out,by rw[HN.out];rfl⟩
     ·have e2:((b:Int)==10)=false:=beq_eq_false_iff_ne.2 (by omega)
      have HQ2:=Lib.hid hb10
      clear hb10
      by_cases hb92:b=92
      ·have e3:((b:Int)==92)=true:=by rw[hb92];rfl
       have HQ3:=Lib.hid hb92
       clear hb92
       have HT1:=Lib.hid (show textT d false (L.drop k)=(textT d true (L.drop (k+1))).map (92:: ·)by
        rw[HD.out];simp only[textT,Bool.false_eq_true,if_false];rw[if_neg (not_or.2 ⟨HQ.out,HQ2.out⟩),show(b==92)=true from beq_iff_eq.2 HQ3.out,HQ3.out])
       by_cases hk1:k+1<L.length
       ·obtain⟨m2,hm2⟩: ∃m2,L[k+1]?=some m2:=⟨_,List.getElem?_eq_getElem hk1⟩
        obtain⟨mb',mo',hoa',hml2,hmc⟩:=(H.out.below HBM.out).at_ (by omega)
        rw[hoa]at hoa'
        cases hoa'
        obtain⟨x0,x1,hb2⟩:=hmc (k+1) m2 hm2
        have HD2:=Lib.hid (show L.drop (k+1)=m2::L.drop (k+2)by rw[List.drop_eq_getElem_cons hk1,(List.getElem?_eq_some_iff.1 hm2).2])
        have e5:((k:Int)+1==(L.length:Int))=false:=beq_eq_false_iff_ne.2 (by omega)
        have HK1:=Lib.hid hk1
        clear hm2 hmc hk1
        obtain⟨b2,p2⟩:=m2
        simp only at x0 x1 hb2
        obtain⟨k2,hk2⟩: ∃k2,k2=k+1:=⟨_,rfl⟩
        have hk3:(k:Int)+1=(k2:Int):=by omega
        rw[hk3]at e5
        have HK2:=Lib.hid hk2
        rw[←hk2]at x0 x1
        have hk4:(k2:Int)<(L.length:Int):=by have:=HK1.out;omega
        clear hk2
        cases p2 with
        |true=>
         have HN:=Lib.hid (HI.out.stop (by rw[HT1.out,HD2.out];rfl))
         go_wp2_with fail
         go_ret2
         exact⟨HBM.out,by rw[HN.out];rfl⟩
        |false=>
         by_cases hbd2:b2=d
         ·have e6:((b2:Int)==(d:Int))=true:=by rw[hbd2];exact beq_self_eq_true _
          have HQ4:=Lib.hid hbd2
          clear hbd2
          have HN:=Lib.hid (HI.out.stop (by rw[HT1.out,HD2.out,HQ4.out];simp[textT]))
          go_wp2_with fail
          go_ret2
          exact⟨HBM.out,by rw[HN.out];rfl⟩
         ·have e6:((b2:Int)==(d:Int))=false:=beq_eq_false_iff_ne.2 (by omega)
          have HQ4:=Lib.hid hbd2
          clear hbd2
          go_wp2_with (at_builtin;refine wpList_app (n:=o.length) (m:=2) (news:=[.int .u8 92,.int .u8 (b2:Nat)]) elU8 rfl _ _ rfl w.heap.size rfl (HOwn.out.alloc _) rfl (Src.new W2 [.int .u8 92,.int .u8 (b2:Nat)] _ _ _) rfl (by simp[Value.oneCell']) (by unfold maxLen;omega) (by omega) (by have:=HBM.out.size;simp;omega) ?_)
          intro v1 w1 hown1 hgr _
          have hb1:Below w.heap.size w w1:=Below.grown (Below.alloc HBM.out HBM.out.size _) hgr (by have:=HBM.out.size;simp;omega) (fun k hk=>(HOwn.out.lt k hk).1)
          have HF:=Lib.hid (HI.out.next2 (W':=w1) (v':=v1) (b2:=b2) HK1.out (by
           rw[HT1.out,HD2.out]
           have e:textT d true (⟨b2,false⟩::L.drop (k+2))=(textT d false (L.drop (k+2))).map fun s=>b2::s:=by
            simp[textT,HQ4.out]
           rw[e]
           cases textT d false (L.drop (k+2))<;>rfl) (by simpa [u8s]using hown1) hb1)
          clear hown1 hgr hb1 y0 y1 yl
          go_wp2_with fail
          rw[←hoa]
          go_roundg (L.length - (k+2))
          case measure=>have:=HG.out;omega
          case rel=>exact⟨k+2,_,by have:=HK2.out;go_num,rfl,HF.out⟩
       ·have e5:((k:Int)+1==(L.length:Int))=true:=by rw[show(k:Int)+1=(L.length:Int)by omega];exact beq_self_eq_true _
        have HN:=Lib.hid (HI.out.stop (by rw[HT1.out,List.drop_of_length_le (by omega)];rfl))
        clear hk1
        go_wp2_with fail
        go_ret2
        exact⟨HBM.out,by rw[HN.out];rfl⟩
      ·have e3:((b:Int)==92)=false:=beq_eq_false_iff_ne.2 (by omega)
       have HQ3:=Lib.hid hb92
       clear hb92
       go_wp2_with (at_builtin;refine wpList_app (n:=o.length) (m:=1) (news:=[.int .u8 (b:Nat)]) elU8 rfl _ _ rfl w.heap.size rfl (HOwn.out.alloc _) rfl (Src.new W2 [.int .u8 (b:Nat)] _ _ _) rfl (by simp[Value.oneCell']) (by unfold maxLen;omega) (by omega) (by have:=HBM.out.size;simp;omega) ?_)
       intro v1 w1 hown1 hgr _
       have hb1:Below w.heap.size w w1:=Below.grown (Below.alloc HBM.out HBM.out.size _) hgr (by have:=HBM.out.size;simp;omega) (fun k hk=>(HOwn.out.lt k hk).1)
       have HF:=Lib.hid (HI.out.next (W':=w1) (v':=v1) (t':=false) (n:=[b]) hlt (by rw[HD.out];simp only[textT,Bool.false_eq_true,if_false];rw[if_neg (not_or.2 ⟨HQ.out,HQ2.out⟩),show(b==92)=false from beq_eq_false_iff_ne.2 HQ3.out];rfl) (by simp) (by simpa [u8s]using hown1) hb1)
       clear hown1 hgr hb1 y0 y1 yl
       go_wp2_with fail
       rw[←hoa]
       go_roundg (L.length - (k+1))
       case measure=>have:=HG.out;omega
       case rel=>exact⟨k+1,_,by go_num,rfl,HF.out⟩
  ·obtain rfl:k=L.length:=by omega
   have hdr:L.drop L.length=[]:=List.drop_length
   have HE:=Lib.hid (show textL d L=some o by
    have h:=HI.out.2.2.2.2
    rw[hdr]at h
    rw[h]
    simp[textT])
   clear hdr
   go_wp2_with fail
   go_ret2
   exact⟨HI.out.2.2.2.1,by rw[HE.out];exact⟨_,rfl,HI.out.2.1⟩⟩
end Go.Proofs.YtfjbnpdffillbaaGreatDoor
