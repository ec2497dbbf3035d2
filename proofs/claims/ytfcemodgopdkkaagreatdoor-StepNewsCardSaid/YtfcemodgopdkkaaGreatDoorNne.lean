/- StepNews: whatever the input, the law returns true, and its arguments read as they did; the tables of Go's library and of the program start as the program's text lays them (the card ties them). No other condition. -/
import Derived.Test.YtfcemodgopdkkaaGreatDoorQ43
import Derived.Test.YtfcemodgopdkkaaGreatDoorQ47
import Derived.Test.YtfcemodgopdkkaaGreatDoorNnf
import Derived.Test.YtfcemodgopdkkaaGreatDoorRows
import Derived.Test.YtfcemodgopdkkaaGreatDoorTie
import Derived.Test.YtfcemodgopdkkaaGreatDoorCards
import Derived.Lay
import Derived.ProofKit
import Derived.ShutString
import Derived.ChangeOld
import Derived.SizedLaws
import Derived.LaidMore
import Derived.OpenShut
import Derived.Stop.Joined
import Derived.Stop.LaidErr
import Derived.Lib.LaidTab
import Derived.Lib.SmallJoins
namespace Go.Proofs.YtfcemodgopdkkaaGreatDoor.stepNewsDone
open Go.ChangeShapes Go.WideShapes Go.ChangeAt Go.RowKit Go.Joins Go.WideMaps Go.WideElems Go.Deep
theorem own:ownKnob Tryz.prog.godebug=none:=by kernel_rfl
theorem laidOut:laidOutB Tryz.prog=true:=by kernel_rfl
set_option maxRecDepth 100000 in
theorem lifted (os:Os) (started:os.Started) (H:Type) (enc:TypeId × Value→H):
  ReturnsInHanded {} Tryz.checked os 3 .any (fun w args=>(Rows.stepNewsSpec.pre enc Tryz.prog Tryz.f3 [] false w args∧laidMetH Tryz.prog zF0 w)∧sizedMet enc Tryz.prog Tryz.f3 (OpenSpec.ofChange Rows.stepNewsSpec) false w args)
   (Rows.stepNewsSpec.post enc Tryz.prog Tryz.f3 false true false false):=by
 refine zDX (C:=Tryz.checked) (X:=fun w _=>laidMetH Tryz.prog zF0 w) (fun _ _ _ hh h=>h.of_heap hh) own started (by kernel_rfl) Tryz.func3
  (ChangeSpec.witness_shaped (enc:=enc) (C:=Tryz.checked) (os:=os) (X:=fun w _=>laidMetH Tryz.prog zF0 w) false (World.laidAll Tryz.prog os zF0) #[.agg #[.slice none 0 0,.slice none 0 0,.slice none 0 0,.bool false],.agg #[.slice none 0 0,.slice none 0 0,.int .i64 0,.int .i64 0,.bool false]] 8 (World.laidAll_os _ _ _) (World.shaped_of_ZipB (by kernel_rfl) (by kernel_rfl)) (by kernel_rfl) (by kernel_rfl) (by kernel_rfl) (by rw[MakeChecks.laidMetH_plain _ _ _ (by kernel_rfl)];exact laidMet_laidAll _ (by kernel_rfl) (by kernel_rfl))) ?_
 intro W base args ds gs before hval0 hW hcnd hsz0 hL hsh _
 have hsz:(DataW.weightsEach Tryz.prog (Tryz.f3.params.toList++Rows.stepNewsSpec.plain.varTypes Tryz.prog) (ds++gs)).all (· ≤reachBytes)=true:=hsz0
 have hval: ∀(j:Nat) t v,Tryz.f3.params[j]?=some t→args[j]?=some v→Value.okWide Tryz.prog W .any base t v:=hval0
 have hW':=hW
 obtain⟨p,q,hA0,hV,rfl,hfz,hnd⟩:=hW
 have hA:DataW.TrodAll enc Tryz.prog W 0 (fun _=>true) true Tryz.f3.params.toList args.toList ds p:=hA0
 rw[Tryz.params3]at hA hval hsz
 obtain⟨v0,vs0,d0,ds0,p0,q0,hargs,rfl,rfl,h0,r0⟩:=trodAll_cons hA
 obtain⟨v1,vs1,d1,ds1,p1,q1,rfl,rfl,rfl,h1,r1⟩:=trodAll_cons r0
 obtain⟨rfl,rfl,rfl⟩:=trodAll_nil r1
 obtain rfl:args= #[v0,v1]:=by cases args;simp_all
 obtain⟨rfl,rfl⟩:=trodVars_none hV
 have k0:=h0
 have lt0: ∀x∈p0,x.block<W.heap.size:=by obtain⟨m,hm⟩:=k0;exact DataW.trod_lt m _ _ _ hm
 have k1:=h1
 have lt1: ∀x∈p1,x.block<W.heap.size:=by obtain⟨m,hm⟩:=k1;exact DataW.trod_lt m _ _ _ hm
 obtain⟨cs0,rfl,_⟩:=okWide_struct Tryz.underlying26 (hval 0 26 v0 rfl rfl)
 obtain⟨cs1,rfl,_⟩:=okWide_struct Tryz.underlying31 (hval 1 31 v1 rfl rfl)
 have hz0:Sz 26 d0:=fun n hn=>by
  have:=List.all_eq_true.1 hsz _ (DataW.weights_mem_each (j:=0) (t:=26) (d:=d0) rfl rfl _ hn)
  simpa only[decide_eq_true_eq]using this
 have hz1:Sz 31 d1:=fun n hn=>by
  have:=List.all_eq_true.1 hsz _ (DataW.weights_mem_each (j:=1) (t:=31) (d:=d1) rfl rfl _ hn)
  simpa only[decide_eq_true_eq]using this
 obtain⟨oc,n,cc,ot,m,ct,of_,k,cf,q,L,ti,fi,hcs0,hP,htc⟩: ∃oc n cc ot m ct of_ k cf q,∃(L:List Cx) (ti:Nat→Int) (fi:Nat→ByteArray),cs0.toList=[.slice oc n cc,.slice ot m ct,.slice of_ k cf,.bool q]∧PgI W oc n cc ot m ct of_ k cf L ti fi∧ ∀c∈L,c.T.length≤c.ct:=by
  obtain⟨fuel,hf⟩:=h0
  exact zIE hf hz0
 obtain⟨ol,ml,cl,og,fl,cg,fa,er,la,LL,FL,hcs1,g1,g2,g3,g4,g5,g6⟩: ∃ol m cl of_ k cf fa er la,∃(LL:List Lin) (FL:List Nat),cs1.toList=[.slice ol m cl,.slice of_ k cf,.int .i64 fa,.int .i64 er,.bool la]∧m*24≤140737488355328∧LL.length=m∧LnM W ol LL∧k*48≤140737488351232∧FL.length=k∧FlM W of_ FL:=by
  obtain⟨fuel,hf⟩:=h1
  exact zIB hf hz1
 obtain rfl:cs0= #[.slice oc n cc,.slice ot m ct,.slice of_ k cf,.bool q]:=by rw[←Array.toArray_toList (xs:=cs0),hcs0]
 obtain rfl:cs1= #[.slice ol ml cl,.slice og fl cg,.int .i64 fa,.int .i64 er,.bool la]:=by rw[←Array.toArray_toList (xs:=cs1),hcs1]
 have htb:=zKc hL (zIN hsh)
 clear hA0 hval0 hsz0
 refine(zHF hP htc g3 g2 g1 g6 g5 g4 fa er la q htb.1 htb.2).mono fun e W' ⟨he,bel⟩=>?_
 subst he
 exact⟨_,rfl,_,_,_,[],_,[],hW',trodAll_mk1 (shut_bool Tryz.underlying4 _),(trodAll_cons_mk (Below.trod laidOut (by kernel_rfl) (of_decide_eq_true (by kernel_rfl)) k0 bel lt0) (trodAll_cons_mk (Below.trod laidOut (by kernel_rfl) (of_decide_eq_true (by kernel_rfl)) k1 bel lt1) trodAll_mk0)),rfl,bel.frame _,fun h=>by cases h⟩
theorem over:Rows.StepNewsSaid:=
 OpenClaim.holds_of_wide 3 Tryz.f3 rfl rfl rfl rfl rfl rfl rfl ⟨rfl,rfl,rfl,rfl,rfl⟩ rfl rfl rfl rfl rfl closedFour Tryz.func3 closedOne closedTwo closedThree
  (fun os started H enc _=>lifted os started H enc)
theorem proved:Rows.StepNewsCardSaid:=
 Claim7.holds_tied_plain_at .later [] [.data,.data,.data,.data,.widerDeep,.data,.pinned] true (true, "3fa3b84288f4082d4eeab0776eaa80eac1e22fabd97be3dff6671180b66ca494") true
  over (fun _ h=>by cases h) (by kernel_rfl) (fun _ h=>by cases h) stepNews_row_tie rfl ⟨rfl,rfl⟩ (by kernel_rfl) rfl
  (fun f fn hf hfn=>by
   obtain rfl:f=3:=zMe ((show Tryz.prog.funcNamed "galley/galleylaw26.StepNews" =some 3 by kernel_rfl).symm.trans hf) |>.symm
   obtain rfl:fn=Tryz.f3:=(zMe (Tryz.func3.symm.trans hfn)).symm
   exact⟨by kernel_rfl,fun j t ht=>by
    rw[Tryz.params3]at ht
    have hm:t∈[26,31]:=by simpa using Array.mem_of_getElem? ht
    have hall:([26,31].all fun u=> !Tryz.prog.wantsStandIn u)=true:=by kernel_rfl
    exact(show Tryz.prog.wantsStandIn t=false by simpa using List.all_eq_true.1 hall t hm)⟩)
  (by kernel_rfl)
#print axioms proved
end Go.Proofs.YtfcemodgopdkkaaGreatDoor.stepNewsDone
