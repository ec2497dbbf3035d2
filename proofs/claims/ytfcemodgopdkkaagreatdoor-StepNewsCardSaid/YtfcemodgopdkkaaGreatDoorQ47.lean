/- Parts: Xla. -/
import Derived.Test.YtfcemodgopdkkaaGreatDoorQ21
import Derived.Test.YtfcemodgopdkkaaGreatDoorQ28
import Derived.Test.YtfcemodgopdkkaaGreatDoorRows
import Derived.LaidMore
import Derived.Stop.Joined
import Derived.Stop.LaidErr
import Derived.ProofKit
import Derived.Lib.LaidTab
import Derived.Lib.LaidU8T
import Derived.ChangeOld
import Derived.SizedLaws
import Derived.OpenShut
import Derived.HandedShaped
import Derived.Shelf.Vars
set_option maxRecDepth 100000
namespace Go.Proofs.YtfcemodgopdkkaaGreatDoor
open Go.RowKit Go.Lib Go.Shelf Go.ChangeShapes Go.WideShapes Go.ChangeAt
abbrev zF0:List (String × DataW Unit):=[("math/bits.deBruijn32tab",Rows.laid_math_bits_deBruijn32tab),("math/bits.deBruijn64tab",Rows.laid_math_bits_deBruijn64tab),("internal/strconv.uint64pow10",Rows.laid_internal_strconv_uint64pow10),("unicode/utf8.acceptRanges",Rows.laid_unicode_utf8_acceptRanges),("galley/fold.letters",Rows.laid_galley_fold_letters),("galley/backref.none",Rows.laid_galley_backref_none),("unicode/utf8.first",Rows.laid_unicode_utf8_first)]
def u8R:Go.Shelf.Ren:=⟨fun x=>x,fun|5=>5|119=>68|138=>337|139=>338|_=>0,fun|3=>4|4=>5|_=>0⟩
theorem u8T:U8Types Tryz.prog u8R:=⟨by kernel_rfl,by kernel_rfl,by kernel_rfl,by kernel_rfl⟩
theorem u8X:U8Extra Tryz.prog u8R:=⟨by kernel_rfl,by kernel_rfl,by kernel_rfl,by kernel_rfl,by kernel_rfl,by kernel_rfl,by kernel_rfl⟩
theorem zKc {W:World} (h:laidMetH Tryz.prog zF0 W) (hm: ∃m:Int,W.cell? ⟨1,0,none⟩=some (.int .i64 m)):zBn W∧U8V W:=by
 rw[MakeChecks.laidMetH_plain _ _ _ (by kernel_rfl)]at h
 have r3:VarReads Tryz.prog W "unicode/utf8.first" firstData:=by
  have:=laidMet.reads h (n:= "unicode/utf8.first") (d:=Rows.laid_unicode_utf8_first) (by simp[zF0])
  rw[show Rows.laid_unicode_utf8_first=firstData by kernel_rfl]at this
  exact this
 have r4:VarReads Tryz.prog W "unicode/utf8.acceptRanges" acceptData:=by
  have:=laidMet.reads h (n:= "unicode/utf8.acceptRanges") (d:=Rows.laid_unicode_utf8_acceptRanges) (by simp[zF0])
  rw[show(Rows.laid_unicode_utf8_acceptRanges:DataW Unit)=acceptData by kernel_rfl]at this
  exact this
 have tb:Lib.Utf8Tabs 4 5 W:=utf8Tabs_of_readsT u8T u8X r3 r4
 have p:zBn W:=Lib.tabIs_of_head (g:=2) (t:=313) (e:=123) (n:=20) (by kernel_rfl) (by kernel_rfl) Tryz.underlying313 Tryz.underlying123 (by kernel_rfl) (by kernel_rfl) (laidMet.tail (laidMet.tail h))
 exact⟨p,hm,tb⟩
theorem zDX {H:Type} {enc:TypeId × Value→H} {a:Assume} {C:Checked} {os:Os} {f:FuncId} {fn:Func} {s:ChangeSpec} {conds:List PathCond} {apart fresh handsOn again:Bool} {X:World→Array Value→Prop}
  (hX: ∀(w w':World) (args:Array Value),w.heap=w'.heap→X w args→X w' args)
  (own:ownKnob C.prog.godebug=none) (started:os.Started) (noInit:C.prog.inits.idxOf? f=none) (hfn:C.prog.funcs[f]?=some fn)
  (witness: ∃(w:World) (tape:Tape) (i:Input),w.os=os∧(w.forCall tape i).Shaped C.prog∧i.vars=[]∧Input.okWide C.prog (w.forCall tape i) .any w.heap.size f i∧
   ((s.pre enc C.prog fn conds apart (w.forCall tape i).memory i.args∧X (w.forCall tape i).memory i.args)∧sizedMet enc C.prog fn (OpenSpec.ofChange s) apart (w.forCall tape i).memory i.args)∧a.holds C.prog (lone (Frame.enter C.prog f i.args .normal) [] (w.forCall tape i)))
  (contract: ∀(W:World) (base:Nat) (args:Array Value) (ds gs:List (DataW H)) (before:List MemPlace),
   (∀(j:Nat) t v,fn.params[j]?=some t→args[j]?=some v→Value.okWide C.prog W .any base t v)→
   DataW.Whole enc C.prog fn.params.toList s.vars apart W args.toList ds gs before→
   conds.all (PathCond.test C.prog ⟨fn.params.toList,ds,s.plain.varTypes C.prog,gs⟩)=true→
   (DataW.weightsEach C.prog (fn.params.toList++s.plain.varTypes C.prog) (ds++gs)).all (· ≤reachBytes)=true→X W args→W.ShapedOpen C.prog→
   a.holds C.prog (lone (Frame.enter C.prog f args .normal) [] W)→
   Calls C.prog f args W fun e W'=> ∃v,e= .returned v∧s.post enc C.prog fn apart fresh handsOn again W args v W'):
  ReturnsInHanded a C os f .any (fun w args=>(s.pre enc C.prog fn conds apart w args∧X w args)∧sizedMet enc C.prog fn (OpenSpec.ofChange s) apart w args) (s.post enc C.prog fn apart fresh handsOn again):=by
 refine returnsInHanded_of_calls own started noInit witness ?_
 intro w tape i _ hsh _ hok hpre hholds
 obtain⟨_,_,_,fn',hfn',_,_,_,_,hval⟩:=hok
 have e:fn'=fn:=zMe (hfn'.symm.trans hfn)
 subst e
 obtain⟨⟨⟨ds,gs,before,hw,hc⟩,hx⟩,hz⟩:=hpre
 have hw':=DataW.Whole.of_heap (w':=w.forCall tape i) (by rfl) hw
 refine(contract (w.forCall tape i) w.heap.size i.args ds gs before hval hw' hc (hz.weights hw) (hX _ _ _ (by rfl) hx) hsh hholds).mono fun e W' ⟨v,he,hp⟩=>?_
 subst he
 exact ChangeSpec.post_blind hp
theorem zIN {W:World} (h:W.ShapedOpen Tryz.prog): ∃m:Int,W.cell? ⟨1,0,none⟩=some (.int .i64 m):=
 Go.Proofs.cell_of_shapedOpen_int (t:=3) (zero:= #[.int .i64 0]) h (of_decide_eq_true (by kernel_rfl)) (by kernel_rfl) rfl (by kernel_rfl) (by kernel_rfl) Tryz.underlying3
end Go.Proofs.YtfcemodgopdkkaaGreatDoor
