/- Parts: Nw Yy. -/
import Derived.Test.YtmaagpbjahjmhaaGreatDoorQ17
import Derived.Test.YtmaagpbjahjmhaaGreatDoorRows
import Derived.LaidMore
import Derived.Stop.Joined
import Derived.Stop.LaidErr
import Derived.ProofKit
import Derived.Lib.LaidTab
import Derived.Lib.LaidU8T
import Derived.Shelf.Vars
import Derived.ChangeOld
import Derived.SizedLaws
import Derived.OpenShut
import Derived.HandedShaped
set_option maxRecDepth 100000
namespace Go.Proofs.YtmaagpbjahjmhaaGreatDoor
section
open Go.RowKit Go.Lib Go.Shelf
abbrev zJk:List (String × DataW Unit):=[("unicode/utf8.acceptRanges",Rows.laid_unicode_utf8_acceptRanges),("galley/parse.errHere",Rows.laid_galley_parse_errHere),("galley/parse.errThere",Rows.laid_galley_parse_errThere),("unicode/utf8.first",Rows.laid_unicode_utf8_first)]
def u8R:Go.Shelf.Ren:=⟨fun x=>x,fun|5=>5|119=>33|138=>279|139=>280|_=>0,fun|3=>3|4=>4|_=>0⟩
theorem u8T:U8Types Tryz.prog u8R:=⟨by kernel_rfl,by kernel_rfl,by kernel_rfl,by kernel_rfl⟩
theorem u8X:U8Extra Tryz.prog u8R:=⟨by kernel_rfl,by kernel_rfl,by kernel_rfl,by kernel_rfl,by kernel_rfl,by kernel_rfl,by kernel_rfl⟩
theorem zPb: "*" ++ "errors.errorString" = "*errors.errorString" :=by decide
theorem zPg (u:TypeId) (h:Tryz.prog.typeName? 3 u=some "*errors.errorString"):u=324:=
 typeName_ptr_named (nm:= "errors.errorString") (by rw[zPb];kernel_rfl) (by kernel_rfl) (by decide) u (by rw[zPb];exact h)
theorem zQF {W:World} (h:laidMetH Tryz.prog zJk W) (hm: ∃m:Int,W.cell? ⟨2,0,none⟩=some (.int .i64 m)): ∃x y,Gl W x y∧x.block<W.heap.size∧y.block<W.heap.size∧4<W.heap.size:=by
 rw[MakeChecks.laidMetH_plain _ _ _ (by kernel_rfl)]at h
 have r3:VarReads Tryz.prog W "unicode/utf8.first" firstData:=by
  have:=laidMet.reads h (n:= "unicode/utf8.first") (d:=Rows.laid_unicode_utf8_first) (by simp[zJk])
  rw[show Rows.laid_unicode_utf8_first=firstData by kernel_rfl]at this
  exact this
 have r4:VarReads Tryz.prog W "unicode/utf8.acceptRanges" acceptData:=by
  have:=laidMet.reads h (n:= "unicode/utf8.acceptRanges") (d:=Rows.laid_unicode_utf8_acceptRanges) (by simp[zJk])
  rw[show(Rows.laid_unicode_utf8_acceptRanges:DataW Unit)=acceptData by kernel_rfl]at this
  exact this
 have tb:Lib.Utf8Tabs 3 4 W:=utf8Tabs_of_readsT u8T u8X r3 r4
 have h4:4<W.heap.size:=zRO W _ (tb.2 0 (by decide)).1
 obtain⟨ps,⟨g0,t0,cs0,f0,p0,q0,hg0,ht0,hv0,hd0,⟨g1,t1,cs1,f1,p1,q1,hg1,ht1,hv1,hd1,hq1,e1⟩,e0⟩,hnd,hrows⟩:=laidMet.tail h
 have n0:Tryz.prog.globalNamed "galley/parse.errHere" =some 0:=by kernel_rfl
 have n1:Tryz.prog.globalNamed "galley/parse.errThere" =some 1:=by kernel_rfl
 have y0:(Tryz.prog.globals[0]?).map (·.type)=some 81:=by kernel_rfl
 have y1:(Tryz.prog.globals[1]?).map (·.type)=some 81:=by kernel_rfl
 obtain rfl:=zRN (n0.symm.trans hg0)
 obtain rfl:=zRN (n1.symm.trans hg1)
 obtain rfl:=zRN (y0.symm.trans ht0)
 obtain rfl:=zRN (y1.symm.trans ht1)
 subst e1
 subst e0
 obtain⟨l0⟩:=cs0
 obtain⟨l1⟩:=cs1
 have ok0: ∀u v,l0=[.iface u v]→Value.okWide Tryz.prog W .any 0 u v:=fun u v e=>by
  subst e
  exact(hrows 0 0 (by simp[MemPlace.row])).2 u v (by simpa using World.var?_cell hg0 hv0 0)
 have ok1: ∀u v,l1=[.iface u v]→Value.okWide Tryz.prog W .any 0 u v:=fun u v e=>by
  subst e
  exact(hrows 1 0 (by simp[MemPlace.row])).2 u v (by simpa using World.var?_cell hg1 hv1 0)
 obtain⟨a0,s0,rfl,hc0,hs0,hz0,rfl⟩:=errorString_of_trod Tryz.underlying81 zPg Tryz.underlying324 Tryz.underlying348 rfl rfl Tryz.underlying9 (by kernel_rfl) (by kernel_rfl) hd0 ok0
 obtain⟨a1,s1,rfl,hc1,hs1,hz1,rfl⟩:=errorString_of_trod Tryz.underlying81 zPg Tryz.underlying324 Tryz.underlying348 rfl rfl Tryz.underlying9 (by kernel_rfl) (by kernel_rfl) hd1 ok1
 have b0:=(hrows a0.block a0.off (by simp[MemPlace.row])).1
 have b1:=(hrows a1.block a1.off (by simp[MemPlace.row])).1
 refine⟨a0,a1,⟨by simpa using World.var?_cell hg0 hv0 0,by simpa using World.var?_cell hg1 hv1 0,b0,b1,?_,hm,tb⟩,zRO W _ hc0,zRO W _ hc1,h4⟩
 rintro rfl
 rw[hc0]at hc1
 cases hc1
 rw[hs0]at hs1
 exact absurd hs1 (by decide)
end
section
open Go.RowKit Go.ChangeShapes Go.WideShapes Go.ChangeAt
section
variable {H:Type} {enc:TypeId × Value→H} {w:World} {spare:Nat→Bool} {held:Bool} {base:Nat}
end
theorem zF9 {H:Type} {enc:TypeId × Value→H} {a:Assume} {C:Checked} {os:Os} {f:FuncId} {fn:Func} {s:ChangeSpec} {conds:List PathCond} {apart fresh handsOn again:Bool} {X:World→Array Value→Prop}
  (hX: ∀(w w':World) (args:Array Value),w.heap=w'.heap→X w args→X w' args)
  (own:ownKnob C.prog.godebug=none) (started:os.Started) (noInit:C.prog.inits.idxOf? f=none) (hfn:C.prog.funcs[f]?=some fn)
  (witness: ∃(w:World) (tape:Tape) (i:Input),w.os=os∧(w.forCall tape i).Shaped C.prog∧i.vars=[]∧Input.okWide C.prog (w.forCall tape i) .any w.heap.size f i∧
   ((s.pre enc C.prog fn conds apart (w.forCall tape i).memory i.args∧X (w.forCall tape i).memory i.args)∧sizedMet enc C.prog fn (OpenSpec.ofChange s) apart (w.forCall tape i).memory i.args)∧a.holds C.prog (lone (Frame.enter C.prog f i.args .normal) [] (w.forCall tape i)))
  (contract: ∀(W:World) (base:Nat) (args:Array Value) (ds gs:List (DataW H)) (before:List MemPlace),
   (∀(j:Nat) t v,fn.params[j]?=some t→args[j]?=some v→Value.okWide C.prog W .any base t v)→
   DataW.Whole enc C.prog fn.params.toList s.vars apart W args.toList ds gs before→
   conds.all (PathCond.test C.prog ⟨fn.params.toList,ds,s.plain.varTypes C.prog,gs⟩)=true→
   (DataW.weightsEach C.prog (fn.params.toList++s.plain.varTypes C.prog) (ds++gs)).all (· ≤reachBytes)=true→X W args→W.ShapedOpen C.prog→
   a.holds C.prog (lone (Frame.enter C.prog f args .normal) [] W)→
   Calls C.prog f args W fun e W'=> ∃v,e= .returned v∧s.post enc C.prog fn apart fresh handsOn again W args v W'):
  ReturnsInHanded a C os f .any (fun w args=>(s.pre enc C.prog fn conds apart w args∧X w args)∧sizedMet enc C.prog fn (OpenSpec.ofChange s) apart w args) (s.post enc C.prog fn apart fresh handsOn again):=by
 refine returnsInHanded_of_calls own started noInit witness ?_
 intro w tape i _ hsh _ hok hpre hholds
 obtain⟨_,_,_,fn',hfn',_,_,_,_,hval⟩:=hok
 have e:fn'=fn:=zRN (hfn'.symm.trans hfn)
 subst e
 obtain⟨⟨⟨ds,gs,before,hw,hc⟩,hx⟩,hz⟩:=hpre
 have hw':=DataW.Whole.of_heap (w':=w.forCall tape i) (by rfl) hw
 refine(contract (w.forCall tape i) w.heap.size i.args ds gs before hval hw' hc (hz.weights hw) (hX _ _ _ (by rfl) hx) hsh hholds).mono fun e W' ⟨v,he,hp⟩=>?_
 subst he
 exact ChangeSpec.post_blind hp
theorem zMV {W:World} (h:W.ShapedOpen Tryz.prog): ∃m:Int,W.cell? ⟨2,0,none⟩=some (.int .i64 m):=
 Go.Proofs.cell_of_shapedOpen_int (t:=3) (zero:= #[.int .i64 0]) h (of_decide_eq_true (by kernel_rfl)) (by kernel_rfl) rfl (by kernel_rfl) (by kernel_rfl) Tryz.underlying3
end
end Go.Proofs.YtmaagpbjahjmhaaGreatDoor
