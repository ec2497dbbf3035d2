/- Parts: Yy. -/
import Derived.Test.YtmaagpbjahjmhaaGreatDoorQ18
import Derived.ProofKit
import Derived.ChangeOld
import Derived.SizedLaws
import Derived.OpenShut
import Derived.HandedShaped
import Derived.Shelf.Vars
set_option maxRecDepth 100000
namespace Go.Proofs.YtmaagpbjahjmhaaGreatDoor
open Go.RowKit Go.ChangeShapes Go.WideShapes Go.ChangeAt
theorem zOo {n:Int} (h:(Lit.int .u8 n).wf=true):0≤n∧n<256:=by
 have:0≤n∧n≤255:=by simpa [Lit.wf,IntKind.min,IntKind.max,IntKind.signed,IntKind.bits]using h
 omega
theorem zNT (b off i:Nat):(⟨b,off,none⟩:Addr).add i=⟨b,off+i,none⟩:=by unfold Addr.add;split<;>simp_all
theorem zL2 {W:World} {base:Nat} {t e:TypeId} {oa:Option Addr} {len cap:Nat} (hu:Tryz.prog.underlying t=some (.slice e)) (h:Value.okWide Tryz.prog W .any base t (.slice oa len cap)):len≤cap∧(oa=none→cap=0)∧ ∀g o s,oa≠some ⟨g,o,some s⟩:=by
 unfold Value.okWide at h
 simp only[hu]at h
 unfold Cell.okWide at h
 simp only[hu]at h
 unfold Cell.ok at h
 simp only[hu]at h
 cases oa with
 |none=>
  cases len with
  |zero=>cases cap with
   |zero=>exact⟨Nat.le_refl _,fun _=>rfl,fun _ _ _ e=>by cases e⟩
   |succ n=>exact h.elim
  |succ n=>exact h.elim
 |some a=>
  refine⟨h.1,fun e=>(by cases e),fun g o s e=>?_⟩
  cases e
  have:=h.2.2.2.1
  cases this
section
variable {H:Type} {enc:TypeId × Value→H} {w:World} {spare:Nat→Bool} {held:Bool} {base:Nat}
theorem zJW {t:TypeId} {v:Value} {d:DataW H} {p:List MemPlace} (ht:Tryz.prog.underlying t=some (.slice 5)) (h:DataW.Trod enc Tryz.prog w base spare held t v d p) {ob:Option Addr} {len cap:Nat} (hv:v= .slice ob len cap):
  ∃T:List Nat,T.length=len∧zDa w ob T∧ ∀b∈T,b<256:=by
 subst hv
 obtain⟨fuel,hf⟩:=h
 rcases open_ints ht Tryz.underlying5 (by kernel_rfl) hf with ⟨h0,_⟩|⟨a,len2,cap2,zs,hcs,_,hl,_,hz,_,hc,hw⟩
 ·have h0':[Value.slice ob len cap]=[.slice none 0 0]:=h0
  simp only[List.cons.injEq,and_true,Value.slice.injEq]at h0'
  obtain⟨rfl,rfl,rfl⟩:=h0'
  exact⟨[],rfl,fun h=>absurd h (by simp),fun b hb=>by cases hb⟩
 ·have hcs':[Value.slice ob len cap]=[.slice (some a) len2 cap2]:=hcs
  simp only[List.cons.injEq,and_true,Value.slice.injEq]at hcs'
  obtain⟨rfl,rfl,rfl⟩:=hcs'
  have hzl:len≤zs.length:=by rw[hz];split<;>omega
  have hb: ∀j,0≤zs.getD j 0∧zs.getD j 0<256:=fun j=>by
   rw[List.getD_eq_getElem?_getD]
   cases hj:zs[j]? with
   |none=>decide
   |some x=>exact zOo (hw x (List.mem_of_getElem? hj))
  have hT:((zs.take len).map Int.toNat).length=len:=by simp;omega
  have hg: ∀j,j<len→(((zs.take len).map Int.toNat).getD j 0:Int)=zs.getD j 0:=fun j hj=>by
   have h1:=(hb j).1
   have e:zs[j]?=some zs[j]:=List.getElem?_eq_getElem (by omega)
   simp only[List.getD_eq_getElem?_getD,e,Option.getD_some]at h1 ⊢
   simp[hj,e]
   omega
  refine⟨(zs.take len).map Int.toNat,hT,fun hp=>?_,fun b hm=>?_⟩
  ·rw[hT]at hp
   obtain⟨b,off,spot⟩:=a
   have c0:=hc 0 (by omega)
   have hspot:spot=none:=by simpa [Addr.add]using World.cell?_spot c0
   subst hspot
   refine⟨b,off,rfl,fun j hj=>?_⟩
   rw[hT]at hj
   have:=hc j (by omega)
   rw[zNT]at this
   rw[this,hg j hj]
  ·obtain⟨x,hx,rfl⟩:=List.mem_map.1 hm
   have:=zOo (hw x (List.take_subset _ _ hx))
   omega
end
theorem zDk {H:Type} {enc:TypeId × Value→H} {a:Assume} {C:Checked} {os:Os} {f:FuncId} {fn:Func} {s:ChangeSpec} {conds:List PathCond} {apart fresh handsOn again:Bool} {X:World→Array Value→Prop}
  (hX: ∀(w w':World) (args:Array Value),w.heap=w'.heap→X w args→X w' args)
  (own:ownKnob C.prog.godebug=none) (started:os.Started) (noInit:C.prog.inits.idxOf? f=none) (hfn:C.prog.funcs[f]?=some fn)
  (witness: ∃(w:World) (tape:Tape) (i:Input),w.os=os∧(w.forCall tape i).Shaped C.prog∧i.vars=[]∧Input.okWide C.prog (w.forCall tape i) .any w.heap.size f i∧
   ((s.pre enc C.prog fn conds apart (w.forCall tape i).memory i.args∧X (w.forCall tape i).memory i.args)∧sizedMet enc C.prog fn (OpenSpec.ofChange s) apart (w.forCall tape i).memory i.args)∧a.holds C.prog (lone (Frame.enter C.prog f i.args .normal) [] (w.forCall tape i)))
  (contract: ∀(W:World) (base:Nat) (args:Array Value) (ds gs:List (DataW H)) (before:List MemPlace),
   (∀(j:Nat) t v,fn.params[j]?=some t→args[j]?=some v→Value.okWide C.prog W .any base t v)→
   DataW.Whole enc C.prog fn.params.toList s.vars apart W args.toList ds gs before→
   conds.all (PathCond.test C.prog ⟨fn.params.toList,ds,s.plain.varTypes C.prog,gs⟩)=true→
   (DataW.weightsEach C.prog (fn.params.toList++s.plain.varTypes C.prog) (ds++gs)).all (· ≤reachBytes)=true→X W args→W.ShapedOpen C.prog→
   a.holds C.prog (lone (Frame.enter C.prog f args .normal) [] W)→
   Calls C.prog f args W fun e W'=> ∃v,e= .returned v∧s.post enc C.prog fn apart fresh handsOn again W args v W'):
  ReturnsInHanded a C os f .any (fun w args=>(s.pre enc C.prog fn conds apart w args∧X w args)∧sizedMet enc C.prog fn (OpenSpec.ofChange s) apart w args) (s.post enc C.prog fn apart fresh handsOn again):=by
 refine returnsInHanded_of_calls own started noInit witness ?_
 intro w tape i _ hsh _ hok hpre hholds
 obtain⟨_,_,_,fn',hfn',_,_,_,_,hval⟩:=hok
 have e:fn'=fn:=Option.some.inj (hfn'.symm.trans hfn)
 subst e
 obtain⟨⟨⟨ds,gs,before,hw,hc⟩,hx⟩,hz⟩:=hpre
 have hw':=DataW.Whole.of_heap (w':=w.forCall tape i) (by rfl) hw
 refine(contract (w.forCall tape i) w.heap.size i.args ds gs before hval hw' hc (hz.weights hw) (hX _ _ _ (by rfl) hx) hsh hholds).mono fun e W' ⟨v,he,hp⟩=>?_
 subst he
 exact ChangeSpec.post_blind hp
theorem zId {W:World} (h:W.ShapedOpen Tryz.prog): ∃m:Int,W.cell? ⟨2,0,none⟩=some (.int .i64 m):=
 Go.Proofs.cell_of_shapedOpen_int (t:=3) (zero:= #[.int .i64 0]) h (of_decide_eq_true (by kernel_rfl)) (by kernel_rfl) rfl (by kernel_rfl) (by kernel_rfl) Tryz.underlying3
end Go.Proofs.YtmaagpbjahjmhaaGreatDoor
