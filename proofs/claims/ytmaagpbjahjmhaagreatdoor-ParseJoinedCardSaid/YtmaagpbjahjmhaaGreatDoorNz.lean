/- ParseJoined: whatever the input, the law returns true, and its arguments read as they did; the errors' variables and the tables of Go's library start as the program's text lays them (the card ties them). No other condition. -/
import Derived.Test.YtmaagpbjahjmhaaGreatDoorQ45
import Derived.Test.YtmaagpbjahjmhaaGreatDoorQ47
import Derived.Test.YtmaagpbjahjmhaaGreatDoorQ48
import Derived.Test.YtmaagpbjahjmhaaGreatDoorRows
import Derived.Test.YtmaagpbjahjmhaaGreatDoorTie
import Derived.Test.YtmaagpbjahjmhaaGreatDoorCards
import Derived.Lay
import Derived.ProofKit
import Derived.ShutString
import Derived.ChangeOld
import Derived.SizedLaws
import Derived.LaidMore
import Derived.OpenShut
import Derived.Stop.Joined
import Derived.Stop.LaidErr
import Derived.Lib.LaidTab
import Derived.Lib.SmallJoins
namespace Go.Proofs.YtmaagpbjahjmhaaGreatDoor.parseJoinedDone
open Go.ChangeShapes Go.WideShapes Go.ChangeAt Go.RowKit Go.Joins Go.WideMaps Go.WideElems Go.Deep
theorem own:ownKnob Tryz.prog.godebug=none:=by kernel_rfl
theorem laidOut:laidOutB Tryz.prog=true:=by kernel_rfl
set_option maxRecDepth 100000 in
theorem lifted (os:Os) (started:os.Started) (H:Type) (enc:TypeId × Value→H):
  ReturnsInHanded {} Tryz.checked os 3 .any (fun w args=>(Rows.parseJoinedSpec.pre enc Tryz.prog Tryz.f3 [] false w args∧laidMetH Tryz.prog zGJ w)∧sizedMet enc Tryz.prog Tryz.f3 (OpenSpec.ofChange Rows.parseJoinedSpec) false w args)
   (Rows.parseJoinedSpec.post enc Tryz.prog Tryz.f3 false true false false):=by
 refine zDk (C:=Tryz.checked) (X:=fun w _=>laidMetH Tryz.prog zGJ w) (fun _ _ _ hh h=>h.of_heap hh) own started (by kernel_rfl) Tryz.func3
  (ChangeSpec.witness_shaped (enc:=enc) (C:=Tryz.checked) (os:=os) (X:=fun w _=>laidMetH Tryz.prog zGJ w) false (World.laidAll Tryz.prog os zGJ) #[.slice none 0 0,.slice none 0 0,.bool false] 8 (World.laidAll_os _ _ _) (World.shaped_of_ZipB (by kernel_rfl) (by kernel_rfl)) (by kernel_rfl) (by kernel_rfl) (by kernel_rfl) (by rw[MakeChecks.laidMetH_plain _ _ _ (by kernel_rfl)];exact laidMet_laidAll _ (by kernel_rfl) (by kernel_rfl))) ?_
 intro W base args ds gs before hval0 hW hcnd _ hL hsh _
 have hval: ∀(j:Nat) t v,Tryz.f3.params[j]?=some t→args[j]?=some v→Value.okWide Tryz.prog W .any base t v:=hval0
 have hW':=hW
 obtain⟨p,q,hA0,hV,rfl,hfz,hnd⟩:=hW
 have hA:DataW.TrodAll enc Tryz.prog W 0 (fun _=>true) true Tryz.f3.params.toList args.toList ds p:=hA0
 rw[Tryz.params3]at hA hval
 obtain⟨v0,vs0,d0,ds0,p0,q0,hargs,rfl,rfl,h0,r0⟩:=trodAll_cons hA
 obtain⟨v1,vs1,d1,ds1,p1,q1,rfl,rfl,rfl,h1,r1⟩:=trodAll_cons r0
 obtain⟨v2,vs2,d2,ds2,p2,q2,rfl,rfl,rfl,h2,r2⟩:=trodAll_cons r1
 obtain⟨rfl,rfl,rfl⟩:=trodAll_nil r2
 obtain rfl:args= #[v0,v1,v2]:=by cases args;simp_all
 obtain⟨rfl,rfl⟩:=trodVars_none hV
 have k0:=h0
 have lt0: ∀x∈p0,x.block<W.heap.size:=by obtain⟨m,hm⟩:=k0;exact DataW.trod_lt m _ _ _ hm
 have k1:=h1
 have lt1: ∀x∈p1,x.block<W.heap.size:=by obtain⟨m,hm⟩:=k1;exact DataW.trod_lt m _ _ _ hm
 have k2:=h2
 have lt2: ∀x∈p2,x.block<W.heap.size:=by obtain⟨m,hm⟩:=k2;exact DataW.trod_lt m _ _ _ hm
 obtain⟨ob,len2,cb,rfl⟩:=okWide_slice Tryz.underlying22 (hval 0 22 v0 rfl rfl)
 have htk:=zL2 Tryz.underlying22 (hval 0 22 _ rfl rfl)
 obtain⟨T,rfl,m0,mu⟩:=zJW Tryz.underlying22 h0 rfl
 obtain⟨x,y,G,gx,gy,g4⟩:=zP6 hL (zId hsh)
 obtain⟨oc,len3,cc,rfl⟩:=okWide_slice Tryz.underlying22 (hval 1 22 v1 rfl rfl)
 have hxk:=zL2 Tryz.underlying22 (hval 1 22 _ rfl rfl)
 obtain⟨X,rfl,n0,nu⟩:=zJW Tryz.underlying22 h1 rfl
 obtain⟨ere,rfl,_,_⟩:=open_bool Tryz.underlying4 (hval 2 4 v2 rfl rfl) h2
 clear hA0 hval0
 refine(zIh m0 mu htk.1 htk.2.1 htk.2.2 n0 nu hxk.1 hxk.2.1 hxk.2.2 G gx gy g4 ere).mono fun e W' ⟨he,bel⟩=>?_
 subst he
 exact⟨_,rfl,_,_,_,[],_,[],hW',trodAll_mk1 (shut_bool Tryz.underlying4 _),(trodAll_cons_mk (Below.trod laidOut (by kernel_rfl) (of_decide_eq_true (by kernel_rfl)) k0 bel lt0) (trodAll_cons_mk (Below.trod laidOut (by kernel_rfl) (of_decide_eq_true (by kernel_rfl)) k1 bel lt1) (trodAll_cons_mk (Below.trod laidOut (by kernel_rfl) (of_decide_eq_true (by kernel_rfl)) k2 bel lt2) trodAll_mk0))),rfl,bel.frame _,fun h=>by cases h⟩
theorem over:Rows.ParseJoinedSaid:=
 OpenClaim.holds_of_wide 3 Tryz.f3 rfl rfl rfl rfl rfl rfl rfl ⟨rfl,rfl,rfl,rfl,rfl⟩ rfl rfl rfl rfl rfl (by kernel_rfl) Tryz.func3 (by kernel_rfl)
  (of_decide_eq_true (by kernel_rfl)) (by unfold Func.isWrapper;first|(rw[if_pos (by decide+kernel)];kernel_rfl)|(rw[if_neg (by decide+kernel)];exact⟨rfl,rfl⟩))
  (fun os started H enc _=>lifted os started H enc)
theorem proved:Rows.ParseJoinedCardSaid:=
 Claim7.holds_tied_plain_at .later [] [.data,.sentinel,.sentinel,.pinned] true (true, "379956e0321afad2d9d6c2510d898ff1479ad62e9c78dde04570e17eed6b3d80") true
  over (fun _ h=>by cases h) (by kernel_rfl) (fun _ h=>by cases h) parseJoined_row_tie rfl ⟨rfl,rfl⟩ (by kernel_rfl) rfl
  (fun f fn hf hfn=>by
   obtain rfl:f=3:=zRG ((show Tryz.prog.funcNamed "galley/galleylaw21.ParseJoined" =some 3 by kernel_rfl).symm.trans hf) |>.symm
   obtain rfl:fn=Tryz.f3:=(zRG (Tryz.func3.symm.trans hfn)).symm
   exact⟨by kernel_rfl,fun j t ht=>by
    rw[Tryz.params3]at ht
    have hm:t∈[22,4]:=by simpa using Array.mem_of_getElem? ht
    have hall:([22,4].all fun u=> !Tryz.prog.wantsStandIn u)=true:=by kernel_rfl
    exact(show Tryz.prog.wantsStandIn t=false by simpa using List.all_eq_true.1 hall t hm)⟩)
  (by kernel_rfl)
#print axioms proved
end Go.Proofs.YtmaagpbjahjmhaaGreatDoor.parseJoinedDone
