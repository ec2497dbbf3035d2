/- The closed facts of the card of StepNews, each by itself. No condition. -/
import Derived.Test.YtfcemodgopdkkaaGreatDoorRows
import Derived.JoinedOf
import Derived.ProofKit
namespace Go.Proofs.YtfcemodgopdkkaaGreatDoor.stepNewsDone
theorem c00:Rows.stepNewsRow.wf (OpenSpec.ofChange Rows.stepNewsSpec)=true:=by kernel_rfl
theorem c01:laidOutB Tryz.pinned.checked.prog=true:=by kernel_rfl
theorem c02:mapsRowed Tryz.pinned.checked.prog=true:=by kernel_rfl
theorem c03:Tryz.f3.params.all (Tryz.pinned.checked.prog.readableRec ·)=true:=by kernel_rfl
theorem c04:namedTie Tryz.pinned.checked.prog Rows.stepNewsRow.named Rows.stepNewsSpec.vars=true:=by kernel_rfl
theorem c05:(Rows.stepNewsRow.stops==[])=true:=by kernel_rfl
theorem c06:(Tryz.pinned.checked.prog.stops==[])=true:=by kernel_rfl
theorem c07:(Rows.stepNewsRow.knobs==[])=true:=by kernel_rfl
theorem c08:(Tryz.pinned.checked.prog.stopKnobs==[])=true:=by kernel_rfl
theorem c09:(Rows.stepNewsRow.inPlace==Tryz.pinned.checked.prog.inPlace 3)=true:=by kernel_rfl
theorem c10:(Rows.stepNewsRow.unfollowed==Tryz.pinned.checked.prog.unfollowed 3)=true:=by kernel_rfl
theorem c11:(Rows.stepNewsRow.recurses==Tryz.pinned.checked.prog.recurses 3)=true:=by kernel_rfl
theorem c12:(Rows.stepNewsRow.named==Tryz.pinned.checked.prog.varsNamed 3)=true:=by kernel_rfl
theorem c13:(Rows.stepNewsRow.maps==(Tryz.f3.params.toList++Rows.stepNewsSpec.plain.varTypes Tryz.pinned.checked.prog).any (Tryz.pinned.checked.prog.mapsRec ·))=true:=by kernel_rfl
theorem c14:(Rows.stepNewsRow.ifaces==(Tryz.f3.params.toList++Rows.stepNewsSpec.plain.varTypes Tryz.pinned.checked.prog).any (Tryz.pinned.checked.prog.ifacesRec ·))=true:=by kernel_rfl
theorem c15:(Rows.stepNewsRow.mapsOut==Tryz.pinned.checked.prog.mapsAmong Tryz.f3.resultTypes.toList)=true:=by kernel_rfl
theorem c16:(Rows.stepNewsRow.loops==(Tryz.f3.params.toList++Rows.stepNewsSpec.plain.varTypes Tryz.pinned.checked.prog).any (Tryz.pinned.checked.prog.loopsFrom ·))=true:=by kernel_rfl
theorem c17:(Rows.stepNewsRow.wideKeys==(Tryz.f3.params.toList++Rows.stepNewsSpec.plain.varTypes Tryz.pinned.checked.prog++Tryz.f3.resultTypes.toList).any (Tryz.pinned.checked.prog.wideKeysFrom ·))=true:=by kernel_rfl
theorem c18:Rows.stepNewsSpec.vars.all (Tryz.pinned.checked.prog.varReadable ·)=true:=by kernel_rfl
theorem c19:Tryz.f3.resultTypes.all (fun t=>Tryz.pinned.checked.prog.readableRec t&&decide (t<Tryz.pinned.checked.prog.types.size))=true:=by kernel_rfl
theorem c20:(Rows.stepNewsRow.ifacesOut==Tryz.f3.resultTypes.toList.any (Tryz.pinned.checked.prog.ifacesRec ·))=true:=by kernel_rfl
theorem c21:(Rows.stepNewsRow.loopsOut==Tryz.f3.resultTypes.toList.any (Tryz.pinned.checked.prog.loopsFrom ·))=true:=by kernel_rfl
theorem c22:(Rows.stepNewsRow.plainKeys==Tryz.pinned.checked.prog.plainKeys)=true:=by kernel_rfl
theorem c23:Rows.stepNewsRow.shortTexts.isNone=true:=by kernel_rfl
theorem c24:Tryz.pinned.checked.prog.stopsHeard=true:=by kernel_rfl
theorem c25:Tryz.pinned.checked.prog.mayEnter=true:=by kernel_rfl
theorem c26:(Rows.stepNewsRow.lifted==Tryz.pinned.checked.prog.liftsFinal)=true:=by kernel_rfl
theorem c27:(Tryz.pinned.checked.prog.make==some Rows.stepNewsRow.make)=true:=by kernel_rfl
theorem c28:(Rows.stepNewsRow.kinds==(if Rows.stepNewsRow.domain.isEmpty then []else Tryz.f3.params.toList.map fun t=>match Tryz.pinned.checked.prog.underlying t with|some (.int k)=>some k|_=>none))=true:=by kernel_rfl
theorem c29:(Rows.stepNewsRow.pinned==Rows.stepNewsRow.pinnedBy)=true:=by kernel_rfl
theorem c30:(Rows.stepNewsRow.veiled==(Tryz.f3.params.toList++Rows.stepNewsSpec.plain.varTypes Tryz.pinned.checked.prog++Tryz.f3.resultTypes.toList).any (Tryz.pinned.checked.prog.veiledRec ·))=true:=by kernel_rfl
theorem c31:Rows.stepNewsRow.veiledFits Tryz.pinned.checked.prog Tryz.f3.params.toList (Tryz.f3.params.toList++Rows.stepNewsSpec.plain.varTypes Tryz.pinned.checked.prog++Tryz.f3.resultTypes.toList)=true:=by kernel_rfl
set_option maxRecDepth 100000 in
theorem closedOne:joinedFacts Tryz.pinned.checked.prog 3 Tryz.f3 Rows.stepNewsSpec Rows.stepNewsRow=true:=by
 unfold joinedFacts
 simp only[Bool.and_eq_true]
 exact⟨⟨⟨⟨⟨⟨⟨⟨⟨⟨⟨⟨⟨⟨⟨⟨⟨⟨⟨⟨⟨⟨⟨⟨⟨⟨⟨⟨⟨⟨⟨c00,c01⟩,c02⟩,c03⟩,c04⟩,c05⟩,c06⟩,c07⟩,c08⟩,c09⟩,c10⟩,c11⟩,c12⟩,c13⟩,c14⟩,c15⟩,c16⟩,c17⟩,c18⟩,c19⟩,c20⟩,c21⟩,c22⟩,c23⟩,c24⟩,c25⟩,c26⟩,c27⟩,c28⟩,c29⟩,c30⟩,c31⟩
set_option maxRecDepth 100000 in
theorem closedTwo:Tryz.f3.isInstance Tryz.pinned.checked.prog Rows.stepNewsRow.origin Rows.stepNewsRow.targs:=of_decide_eq_true (by kernel_rfl)
set_option maxRecDepth 100000 in
theorem closedThree:Tryz.f3.isWrapper Tryz.pinned.checked.prog Rows.stepNewsRow.wrapper Rows.stepNewsRow.mainSum:=by unfold Func.isWrapper;first|(rw[if_pos (by decide+kernel)];kernel_rfl)|(rw[if_neg (by decide+kernel)];exact⟨rfl,rfl⟩)
theorem closedFour:Tryz.pinned.checked.prog.funcNamed Rows.stepNewsRow.func=some 3:=by kernel_rfl
end Go.Proofs.YtfcemodgopdkkaaGreatDoor.stepNewsDone
