/- ParseShaped: whatever the input, the law returns true, and its arguments read as they did; the errors' variables and the tables of Go's library start as the program's text lays them (the card ties them). No other condition. -/
import Derived.Test.YtmaagpbjahjmhaaGreatDoorQ48
import Derived.Test.YtmaagpbjahjmhaaGreatDoorQ49
import Derived.Test.YtmaagpbjahjmhaaGreatDoorRows
import Derived.Test.YtmaagpbjahjmhaaGreatDoorTie
import Derived.Test.YtmaagpbjahjmhaaGreatDoorCards
import Derived.Lay
import Derived.ProofKit
import Derived.ShutString
import Derived.ChangeOld
import Derived.SizedLaws
import Derived.LaidMore
import Derived.OpenShut
import Derived.Stop.Joined
import Derived.Stop.LaidErr
import Derived.Lib.LaidTab
import Derived.Lib.SmallJoins
namespace Go.Proofs.YtmaagpbjahjmhaaGreatDoor.parseShapedDone
open Go.ChangeShapes Go.WideShapes Go.ChangeAt Go.RowKit Go.Joins Go.WideMaps Go.WideElems Go.Deep
theorem own:ownKnob Tryz.prog.godebug=none:=by kernel_rfl
theorem laidOut:laidOutB Tryz.prog=true:=by kernel_rfl
set_option maxRecDepth 100000 in
theorem lifted (os:Os) (started:os.Started) (H:Type) (enc:TypeId × Value→H):
  ReturnsInHanded {} Tryz.checked os 4 .any (fun w args=>(Rows.parseShapedSpec.pre enc Tryz.prog Tryz.f4 [] false w args∧laidMetH Tryz.prog zJk w)∧sizedMet enc Tryz.prog Tryz.f4 (OpenSpec.ofChange Rows.parseShapedSpec) false w args)
   (Rows.parseShapedSpec.post enc Tryz.prog Tryz.f4 false true false false):=by
 refine zF9 (C:=Tryz.checked) (X:=fun w _=>laidMetH Tryz.prog zJk w) (fun _ _ _ hh h=>h.of_heap hh) own started (by kernel_rfl) Tryz.func4
  (ChangeSpec.witness_shaped (enc:=enc) (C:=Tryz.checked) (os:=os) (X:=fun w _=>laidMetH Tryz.prog zJk w) false (World.laidAll Tryz.prog os zJk) #[.agg Tryz.zeroCells36] 8 (World.laidAll_os _ _ _) (World.shaped_of_ZipB (by kernel_rfl) (by kernel_rfl)) (by kernel_rfl) (by kernel_rfl) (by kernel_rfl) (by rw[MakeChecks.laidMetH_plain _ _ _ (by kernel_rfl)];exact laidMet_laidAll _ (by kernel_rfl) (by kernel_rfl))) ?_
 intro W base args ds gs before hval0 hW hcnd hsz0 hL hsh _
 have hsz:(DataW.weightsEach Tryz.prog (Tryz.f4.params.toList++Rows.parseShapedSpec.plain.varTypes Tryz.prog) (ds++gs)).all (· ≤reachBytes)=true:=hsz0
 have hval: ∀(j:Nat) t v,Tryz.f4.params[j]?=some t→args[j]?=some v→Value.okWide Tryz.prog W .any base t v:=hval0
 have hW':=hW
 obtain⟨p,q,hA0,hV,rfl,hfz,hnd⟩:=hW
 have hA:DataW.TrodAll enc Tryz.prog W 0 (fun _=>true) true Tryz.f4.params.toList args.toList ds p:=hA0
 rw[Tryz.params4]at hA hval hsz
 obtain⟨v0,vs0,d0,ds0,p0,q0,hargs,rfl,rfl,h0,r0⟩:=trodAll_cons hA
 obtain⟨rfl,rfl,rfl⟩:=trodAll_nil r0
 obtain rfl:args= #[v0]:=by cases args;simp_all
 obtain⟨rfl,rfl⟩:=trodVars_none hV
 have k0:=h0
 have lt0: ∀x∈p0,x.block<W.heap.size:=by obtain⟨m,hm⟩:=k0;exact DataW.trod_lt m _ _ _ hm
 obtain⟨cs,rfl,_⟩:=okWide_struct Tryz.underlying36 (hval 0 36 v0 rfl rfl)
 have hz:Sz 36 d0:=fun n hn=>by
  have:=List.all_eq_true.1 hsz _ (DataW.weights_mem_each (j:=0) (t:=36) (d:=d0) rfl rfl _ hn)
  simpa only[decide_eq_true_eq]using this
 obtain⟨c,hcl,hm⟩: ∃c:Cx,c.l=cs.toList∧CxM W c:=by
  obtain⟨fuel,hf⟩:=h0
  exact zOz hf hz
 obtain⟨x,y,G,gx,gy,g4⟩:=zQF hL (zMV hsh)
 have hca:c.l.toArray=cs:=by rw[hcl,Array.toArray_toList]
 rw[←hca]at k0 hW' ⊢
 clear hA0 hval0 hsz0
 refine(zHw hm G gx gy g4).mono fun e W' ⟨he,bel⟩=>?_
 subst he
 exact⟨_,rfl,_,_,_,[],_,[],hW',trodAll_mk1 (shut_bool Tryz.underlying4 _),(trodAll_cons_mk (Below.trod laidOut (by kernel_rfl) (of_decide_eq_true (by kernel_rfl)) k0 bel lt0) trodAll_mk0),rfl,bel.frame _,fun h=>by cases h⟩
theorem closedOne:joinedFacts Tryz.pinned.checked.prog 4 Tryz.f4 Rows.parseShapedSpec Rows.parseShapedRow=true:=by kernel_rfl
theorem closedTwo:Tryz.f4.isInstance Tryz.pinned.checked.prog Rows.parseShapedRow.origin Rows.parseShapedRow.targs:=of_decide_eq_true (by kernel_rfl)
theorem closedThree:Tryz.f4.isWrapper Tryz.pinned.checked.prog Rows.parseShapedRow.wrapper Rows.parseShapedRow.mainSum:=by unfold Func.isWrapper;first|(rw[if_pos (by decide+kernel)];kernel_rfl)|(rw[if_neg (by decide+kernel)];exact⟨rfl,rfl⟩)
theorem closedFour:Tryz.pinned.checked.prog.funcNamed Rows.parseShapedRow.func=some 4:=by kernel_rfl
theorem over:Rows.ParseShapedSaid:=
 OpenClaim.holds_of_wide 4 Tryz.f4 rfl rfl rfl rfl rfl rfl rfl ⟨rfl,rfl,rfl,rfl,rfl⟩ rfl rfl rfl rfl rfl closedFour Tryz.func4 closedOne closedTwo closedThree
  (fun os started H enc _=>lifted os started H enc)
theorem proved:Rows.ParseShapedCardSaid:=
 Claim7.holds_tied_plain_at .later [] [.data,.sentinel,.sentinel,.pinned] true (true, "379956e0321afad2d9d6c2510d898ff1479ad62e9c78dde04570e17eed6b3d80") true
  over (fun _ h=>by cases h) (by kernel_rfl) (fun _ h=>by cases h) parseShaped_row_tie rfl ⟨rfl,rfl⟩ (by kernel_rfl) rfl
  (fun f fn hf hfn=>by
   obtain rfl:f=4:=zRN ((show Tryz.prog.funcNamed "galley/galleylaw21.ParseShaped" =some 4 by kernel_rfl).symm.trans hf) |>.symm
   obtain rfl:fn=Tryz.f4:=(zRN (Tryz.func4.symm.trans hfn)).symm
   exact⟨by kernel_rfl,fun j t ht=>by
    rw[Tryz.params4]at ht
    have hm:t∈[36]:=by simpa using Array.mem_of_getElem? ht
    have hall:([36].all fun u=> !Tryz.prog.wantsStandIn u)=true:=by kernel_rfl
    exact(show Tryz.prog.wantsStandIn t=false by simpa using List.all_eq_true.1 hall t hm)⟩)
  (by kernel_rfl)
#print axioms proved
end Go.Proofs.YtmaagpbjahjmhaaGreatDoor.parseShapedDone
