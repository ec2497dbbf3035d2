/- Parts: Gi. -/
import Derived.Test.YtmaagpbjahjmhaaGreatDoorQ18
import Derived.Test.YtmaagpbjahjmhaaGreatDoorQ19
import Derived.Test.YtmaagpbjahjmhaaGreatDoorQ20
import Derived.WalkMore
import Derived.LoopN
set_option maxHeartbeats 3200000
set_option maxRecDepth 100000
namespace Go.Proofs.YtmaagpbjahjmhaaGreatDoor
open Go.RowKit
theorem zPK: ∀c,c<256→128≤c→ ∃a b:UInt8,Utf8.encode ((c:Nat):Int)=⟨#[a,b]⟩∧128≤b.toNat:=by
 have h: ∀c,c<256→128≤c→Utf8.encode ((c:Nat):Int)=⟨#[(Utf8.encode ((c:Nat):Int)).data[0]!,(Utf8.encode ((c:Nat):Int)).data[1]!]⟩∧128≤((Utf8.encode ((c:Nat):Int)).data[1]!).toNat:=by decide+kernel
 exact fun c h1 h2=>⟨_,_,(h c h1 h2).1,(h c h1 h2).2⟩
theorem zMS: ∀b:Nat,b<256→128≤b→Lib.indexByte [50,51,52,53,54,55,56,57] ((b:Int).toNat.toUInt8)= -1:=by decide+kernel
theorem zLy {c:Nat} (h:128≤c) (h2:c<256):zPQ c:=fun w=>by
 have ht:zOa c= -1:=by unfold zOa;rw[if_neg (by omega)]
 rw[ht]
 unfold zP1
 have q1: ¬(c:Int)<128:=by omega
 have q2:((c:Int)==65533)=false:=zQx.2 (by omega)
 go_enter Tryz.func216,Tryz.ntmps216
 go_wp2_with fail
 refine(shl.utf8_ValidRune (c:Int) w).mono ?_;rintro e w1 ⟨rfl,rfl⟩
 have hv:Lib.validRune (c:Int)=true:=by simp[Lib.validRune];omega
 rw[hv]
 obtain⟨a,b,he,hb⟩:=zPK c h2 h
 have hbl:b.toNat<256:=b.toNat_lt
 go_wp2_with fail
 go_step3
 go_wp2_with fail
 refine wp_loop_rounds 1 ?_
 rw[rounds_succ]
 go_wp2_with fail
 go_step3
 go_upto_region 6 with fail
 have hne:(((((⟨#[48,49,50,51,52,53,54,55,56,57]⟩:ByteArray)[1]'(by decide)).toNat:Nat):Int) !=((((⟨#[a,b]⟩:ByteArray)[1]'(by show 1<2;decide)).toNat:Nat):Int))=true:=by
  show(((49:Nat):Int) !=((b.toNat:Nat):Int))=true
  exact bne_iff_ne.2 (by omega)
 clear h he q1 q2 hv
 refine zAA (X:=none) 7 [] [0,1,2,3,4,5,6] (by kernel_rfl) (by kernel_rfl) rfl (fun _ _ _ _ _ h=>h) ?_
 simp only[zAK,zAC,zAD,zAB,List.getD_cons_zero,List.getD_cons_succ,List.drop_succ_cons,List.drop_nil]
 repeat (go_big_quiet_step (fail))
 refine wpQuiet_nil ?_
 go_upto_region 7 with fail
 refine zAA (X:=none) 7 [] [0,1,2,3,4,5,6] (by kernel_rfl) (by kernel_rfl) rfl (fun _ _ _ _ _ h=>h) ?_
 simp only[zAK,zAC,zAD,zAB,List.getD_cons_zero,List.getD_cons_succ,List.drop_succ_cons,List.drop_zero]
 repeat (go_big_quiet_step (fail))
 refine wpQuiet_nil ?_
 go_wp2_with fail
 have hix:Lib.indexByte ((⟨#[48,49,50,51,52,53,54,55,56,57]⟩:ByteArray).extract 2 10).data.toList ((((((⟨#[a,b]⟩:ByteArray)[1]'(by show 1<2;decide)).toNat:Nat):Int)).toNat.toUInt8)= -1:=zMS b.toNat hbl hb
 refine(shl.strings_IndexByte _ _ _).mono ?_
 rintro e w2 ⟨rfl,rfl⟩
 rw[hix]
 go_wp2_with fail
 rw[Exit.noGoto_ret]
 go_wp2_with fail
 rw[Exit.noGoto_ret]
 go_ret
 exact⟨rfl,(zQs _ _).drew.drew⟩
end Go.Proofs.YtmaagpbjahjmhaaGreatDoor
