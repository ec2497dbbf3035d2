/- Parts: Mix Xa. -/
import Derived.Lib.Hide
import Derived.Test.YtfcemodgopdkkaaGreatDoorProg
import Derived.WalkKit
import Derived.StillTail
import Derived.BigQuiet
namespace Go.Proofs.YtfcemodgopdkkaaGreatDoor
section
open Go.RowKit
abbrev zL8:=@Lib.hid
abbrev zL9:=@Below.refl
abbrev zMA:=@Nat.le_refl
abbrev zMB:=@Nat.lt_of_lt_of_le
abbrev zMC:=@World.cell?_of_block
abbrev zMD:=@World.frozen?_of_block
abbrev zME:=@beq_eq_false_iff_ne
abbrev zMF:=@List.getElem?_eq_some_iff
abbrev zMG:=@Array.getElem?_eq_some_iff
abbrev zMH:=@List.getD_eq_getElem?_getD
abbrev zMI:=@Below.heap_setCell
abbrev zMJ:=@decide_eq_true
abbrev zMK:=@decide_eq_false
abbrev zML:=@heap_alloc_new
abbrev zMM:=@heap_alloc_old
abbrev zMN:=@cell_of_row
abbrev zMO:=@World.ownsRow_nil
abbrev zMP:=@List.getElem?_eq_getElem
abbrev zMQ:=@World.cell?_setCell_other
abbrev zMR:=@World.cell?_setCell_same
abbrev zMS:=@List.length_append
abbrev zMT:=@List.getElem?_append_left
abbrev zMU:=@List.getElem?_append_right
abbrev zMV:=@Nat.le_trans
abbrev zMW:=@World.ownsRow.stored
abbrev zMX:=@World.ownsRow.cellAt
abbrev zMY:=@World.ownsRow.frozenAt
abbrev zMZ:=@Below.alloc
abbrev zMa:=@Below.setCell
abbrev zMb:=@Below.drew
abbrev zMc:=@List.mem_of_getElem?
abbrev zMd:=@List.mem_append
abbrev zMe:=@Option.some.inj
abbrev zMf:=@World.block_lt_of_cell?
abbrev zMg:=@List.eq_nil_of_length_eq_zero
abbrev zMh:=@Nat.mul_le_mul_right
abbrev zMi:=@bodyPost_ret
abbrev zMj:=@List.getElem?_eq_none
end
section
open Go.RowKit
variable {X:Option Nat}
structure zAP (X:Option Nat) (w w':World):Prop where
 size:w.heap.size≤w'.heap.size
 cell: ∀a:Addr,a.block<w.heap.size→X≠some a.block→w'.cell? a=w.cell? a
theorem zAP.refl (w:World):zAP X w w:=⟨Nat.le_refl _,fun _ _ _=>rfl⟩
theorem zAP.trans {a b c:World} (h:zAP X a b) (k:zAP X b c):zAP X a c:=
 ⟨Nat.le_trans h.size k.size,fun x hx hX=>(k.cell x (Nat.lt_of_lt_of_le hx h.size) hX).trans (h.cell x hx hX)⟩
theorem zA5 (w:World) (o:Obj):zAP X w (w.alloc o):=
 ⟨by simp,fun a ha _=>World.cell?_of_block (w:=w) (Below.heap_alloc w o a.block ha)⟩
theorem zBS {w w':World} (h:zAP X w w'):zAP X w.drew w'.drew:=⟨h.1,h.2⟩
theorem zAP.of_below {w w':World} (h:Below w.heap.size w w'):zAP X w w':=⟨h.size,fun _ ha _=>h.cell ha⟩
open Classical in
noncomputable def wgr (X:Option Nat) (w g:World):World:=if zAP X w g then g else w
theorem zBZ (w g:World):zAP X w (wgr X w g):=by
 unfold wgr;split
 ·assumption
 ·exact zAP.refl w
theorem zKa {w g:World} (h:zAP X w g):wgr X w g=g:=by unfold wgr;rw[if_pos h]
@[go_sem] theorem zLA (w g:World) (b o:Nat) (s:Option Nat) (h:b<w.heap.size):(wgr none w g).cell? ⟨b,o,s⟩=w.cell? ⟨b,o,s⟩:=(zBZ w g).cell _ h (by simp)
@[go_sem] theorem zDm (w g:World) (b o:Nat) (s:Option Nat) (h:b<w.heap.size):(wgr none w.drew g).cell? ⟨b,o,s⟩=w.cell? ⟨b,o,s⟩:=(zBZ w.drew g).cell _ h (by simp)
@[go_sem] theorem zJj (w g:World) (B b o:Nat) (s:Option Nat) (h:b<w.heap.size) (hne:B≠b):(wgr (some B) w g).cell? ⟨b,o,s⟩=w.cell? ⟨b,o,s⟩:=(zBZ w g).cell _ h (by simpa using hne)
@[go_sem] theorem zGc (w g:World) (B b o:Nat) (s:Option Nat) (h:b<w.heap.size) (hne:B≠b):(wgr (some B) w.drew g).cell? ⟨b,o,s⟩=w.cell? ⟨b,o,s⟩:=(zBZ w.drew g).cell _ h (by simpa using hne)
theorem zAP.of_setCell {w:World} {B j:Nat} {s:Option Nat} (v:Value):zAP (some B) w (w.setCell ⟨B,j,s⟩ v):=
 ⟨by simp,fun a _ hX=>World.cell?_of_block (w:=w) (Below.heap_setCell _ _ _ _ (by simpa using fun h=>hX (by simp[h])))⟩
@[go_sem ↓ high] theorem zIy (w:World) (x:Obj) (b o:Nat) (s:Option Nat) (h:b<w.heap.size):(w.alloc x).cell? ⟨b,o,s⟩=w.cell? ⟨b,o,s⟩:=
 World.cell?_of_block (w:=w) (Below.heap_alloc w x b h)
@[go_sem ↓ high] theorem zHb (w:World) (x:Obj) (b o:Nat) (s:Option Nat) (h:b<w.heap.size):(w.alloc x).frozen? ⟨b,o,s⟩=w.frozen? ⟨b,o,s⟩:=
 World.frozen?_of_block (w:=w) (Below.heap_alloc w x b h)
@[go_sem ↓] theorem zJQ (w:World) (o:Obj) (b:Nat) (h:b<w.heap.size):(b<(w.alloc o).heap.size)=True:=by simp;omega
section
variable {P:Program} {ops:Array Oper} {Q:Exit→Act→World→Prop} {md:Region.Mode} {n:Nat}
def zBD (X:Option Nat) (P:Program) (ops:Array Oper) (w0:World) (o:Oper) (v:Value) (a:Act):Prop:=
 (Region.wanted o (yielded ops a.tmps)=true∧ ∀w,zAP X w0 w→(execOp a.eval o).run P w= .ok (.value v) w∨(v=undef∧(execOp a.eval o).run P w= .ok .skip w))∨
 (Region.wanted o (yielded ops a.tmps)=false∧v=undef)
theorem zBD.wpOp {w0:World} {i:Nat} {o:Oper} {v:Value} {a:Act} (hi:ops[i]?=some o) (hy:zBD X P ops w0 o v a)
  {K:Act→World→Prop} {w:World} (hS:zAP X w0 w) (h:K (a.put o.dst v) w):wpOp P ops Q i K a w:=by
 unfold Go.wpOp
 simp only[hi]
 rcases hy with ⟨hw,hv⟩|⟨hw,rfl⟩
 ·rw[if_pos hw]
  refine .inl ?_
  unfold Oper.wp
  rcases hv w hS with h1|⟨h0,h1⟩
  ·rw[h1];exact h
  ·rw[h1];rw[h0]at h;exact h
 ·simp only[hw,Bool.false_eq_true,if_false];exact h
theorem zBD.of_same {w0:World} {o:Oper} {v:Value} {a a':Act} (hy:zBD X P ops w0 o v a) (he:execOp a'.eval o=execOp a.eval o)
  (hw:Region.wanted o (yielded ops a'.tmps)=Region.wanted o (yielded ops a.tmps)):zBD X P ops w0 o v a':=by
 unfold zBD at*
 rw[he,hw]
 exact hy
theorem zHd {w0:World} {j:Nat} {oi oj:Oper} {v:Value} (hj:ops[j]?=some oj) (hap:oi.apart ops oj=true)
  (hsi: ∀cs b,oi.op≠ .select cs b) (hsj: ∀cs b,oj.op≠ .select cs b)
  (hQ: ∀c a w,Q (.panic c) (a.put oi.dst v) w→Q (.panic c) a w) {K:Act→World→Prop} {a:Act} {w:World}
  (hy:zBD X P ops w0 oi v a) (h:wpOp P ops Q j K (a.put oi.dst v) w):
  wpOp P ops Q j (fun a' w'=>zBD X P ops w0 oi v a'∧K (a'.put oi.dst v) w') a w:=by
 obtain⟨h1,h2,h3⟩:=Oper.apart_spec hap
 have keep: ∀(a:Act),zBD X P ops w0 oi v a→ ∀u,zBD X P ops w0 oi v (a.put oj.dst u):=fun a hy u=>
  hy.of_same (execOp_put oi hsi a oj.dst u h3) (wanted_put oi a oj.dst u h3)
 have keepD: ∀d,zBD X P ops w0 oi v { a with defers:=d::a.defers } :=fun d=>hy.of_same rfl rfl
 unfold wpOp at*
 simp only[hj]at*
 rw[wanted_put oj a oi.dst v h1]at h
 split
 ·rename_i hw
  simp only[hw,if_true]at h
  rcases h with h|⟨hasks,hlets⟩
  case inr=>exact .inr ⟨by unfold Oper.asks at *; rw[execOp_put oj hsj a oi.dst v h1]at hasks;exact hasks,hlets⟩
  refine .inl ?_
  unfold Oper.wp at*
  rw[execOp_put oj hsj a oi.dst v h1]at h
  generalize (execOp a.eval oj).run P w=r at*
  cases r with
  |ok n w'=>
   cases n<;>simp only[Oper.upon]at h ⊢
   case value u=>exact⟨keep a hy u,by rw[←Act.put_comm a v u h2];exact h⟩
   case skip=>exact⟨keep a hy _,by rw[←Act.put_comm a v undef h2];exact h⟩
   case defer d=>
    refine⟨keep _ (keepD d) _,?_⟩
    rw[←Act.put_comm _ v undef h2,←Act.put_defers]
    exact h
   case enter f args=>
    refine Calls.mono h fun e w'' he=>?_
    cases e with
    |returned u=>exact⟨keep a hy u,by rw[←Act.put_comm a v u h2];exact he⟩
    |panicked c=>exact hQ _ _ _ he
    |outgrown=>exact he
   case row row args=>exact Rows.mono h fun u w'' he=>⟨keep a hy u,by rw[←Act.put_comm a v u h2];exact he⟩
  |halt x w'=>
   cases x<;>simp only[Oper.upon]at h ⊢
   case panic u=>exact hQ _ _ _ h
 ·rename_i hw
  simp only[hw]at h
  exact⟨keep a hy _,by rw[←Act.put_comm a v undef h2];exact h⟩
def zCH (X:Option Nat) (P:Program) (md:Region.Mode) (ops:Array Oper) (Q:Exit→Act→World→Prop) (n:Nat):Nat→Array Bool→Act→World→Prop
 |0,listed,a,w=>Region.ready md ops listed=[]∧Q .normal a w
 |fuel+1,listed,a,w=>
  (Region.ready md ops listed=[]→Q .normal a w)∧
  ∀i∈Region.ready md ops listed,wpOp P ops Q i (fun a' w'=>(i<n→zAP X w w')∧zCH X P md ops Q n fuel (listed.setIfInBounds i true) a' w') a w
theorem zDn: ∀(fuel:Nat) (listed:Array Bool) (a:Act) (w:World),zCH X P md ops Q n fuel listed a w→wpAny P md ops Q fuel listed a w
 |0,_,_,_,h=>h
 |fuel+1,_,_,_,h=>⟨h.1,fun i hi=>wpOp_mono (fun a' w' h'=>zDn fuel _ a' w' h'.2) (h.2 i hi)⟩
theorem zET {w0:World} {i:Nat} {oi:Oper} {v:Value} (hi:ops[i]?=some oi) (hsel: ∀(j:Nat) (o:Oper) cs b,ops[j]?=some o→o.op≠ .select cs b)
  (hQ: ∀c a w,Q (.panic c) (a.put oi.dst v) w→Q (.panic c) a w) (hin:i<n)
  (hwait: ∀listed:Array Bool,HeadInv md ops n listed→listed.getD i true=false→ ∀t,n≤t→t∉Region.ready md ops listed):
  ∀(fuel:Nat) (listed:Array Bool) (a:Act) (w:World),HeadInv md ops n listed→
   (∀j oj,ops[j]?=some oj→j≠i→listed.getD j true=false→(∀e∈oj.after,Region.binds md e=true→e.on≠i)→oi.apart ops oj=true)→
   i∈Region.ready md ops listed→zBD X P ops w0 oi v a→zAP X w0 w→
   zCH X P md ops Q n fuel (listed.setIfInBounds i true) (a.put oi.dst v) w→zCH X P md ops Q n (fuel+1) listed a w:=by
 intro fuel
 induction fuel with
 |zero=>
  intro listed a w _ _ hr hy hS H
  refine⟨fun h=>(by rw[h]at hr;cases hr),fun j hj=>?_⟩
  by_cases hji:j=i
  ·subst hji;exact hy.wpOp hi hS ⟨fun _=>zAP.refl w,H⟩
  ·have:=ready_mono hj hji
   rw[H.1]at this
   cases this
 |succ fuel ih=>
  intro listed a w inv hfree hr hy hS H
  refine⟨fun h=>(by rw[h]at hr;cases hr),fun j hj=>?_⟩
  by_cases hji:j=i
  ·subst hji;exact hy.wpOp hi hS ⟨fun _=>zAP.refl w,H⟩
  ·have h1:=H.2 j (ready_mono hj hji)
   obtain⟨hjun,oj,hoj,hall⟩:=mem_ready.1 hj
   have hun:=(mem_ready.1 hr).1
   have hnot: ∀e∈oj.after,Region.binds md e=true→e.on≠i:=fun e he hb heq=>by
    have h1:=hall e he hb
    rw[heq,getD_both hun]at h1
    cases h1
   have hjn:j<n:=by
    rcases Nat.lt_or_ge j n with h|h
    ·exact h
    ·exact absurd hj (hwait listed inv hun j h)
   have h2:=zHd hoj (hfree j oj hoj hji hjun hnot) (fun cs b=>hsel i oi cs b hi) (fun cs b=>hsel j oj cs b hoj) hQ hy h1
   have hfree': ∀k ok,ops[k]?=some ok→k≠i→(listed.setIfInBounds j true).getD k true=false→
     (∀e∈ok.after,Region.binds md e=true→e.on≠i)→oi.apart ops ok=true:=fun k ok hk hki hun hno=>by
    refine hfree k ok hk hki ?_ hno
    by_cases hjk:j=k
    ·subst hjk;exact hjun
    ·rw[getD_set_ne true hjk]at hun;exact hun
   refine wpOp_mono (fun a' w' h3=>?_) h2
   obtain⟨hy',hk,h4⟩:=h3
   refine⟨hk,ih (listed.setIfInBounds j true) a' w' (inv.set hj hjn) hfree' (ready_mono hr (Ne.symm hji)) hy' (hS.trans (hk hjn)) ?_⟩
   rw[Array.setIfInBounds_comm _ _ hji]
   exact h4
def zDz (o:Oper):Bool:=
 match o.op with
 | .move _| .assign _| .extract _ _| .pick _ _ _=>true
 |_=>false
def zAw (P:Program) (ops:Array Oper) (o:Oper) (v:Value) (a:Act):Prop:=
 (Region.wanted o (yielded ops a.tmps)=true∧ ∀w,(execOp a.eval o).run P w= .ok (.value v) w)∨
 (Region.wanted o (yielded ops a.tmps)=false∧v=undef)
theorem zHA {o:Oper} (h:zDz o=true) (ρ:Operand→Value) {v:Value} {w0:World} (hr:(execOp ρ o).run P w0= .ok (.value v) w0): ∀w,(execOp ρ o).run P w= .ok (.value v) w:=by
 obtain⟨dst,op,type,pos,after,guard⟩:=o
 cases op<;>simp only[zDz]at h<;>try contradiction
 case move x=>
  intro w
  simp only[execOp,Sem.run_pure,Result.ok.injEq,Next.value.injEq,and_true]at hr ⊢
  exact hr
 case assign x=>
  intro w
  simp only[execOp,Sem.run_pure,Result.ok.injEq,Next.value.injEq,and_true]at hr ⊢
  exact hr
 case pick c x y=>
  intro w
  simp only[execOp,Sem.run_bind,asBool]at hr ⊢
  generalize ρ c=u at*
  cases u<;>simp[Result.andThen,stuck]at hr ⊢
  exact hr
 case extract t i=>
  intro w
  simp only[execOp,Sem.run_bind,Instr.extract]at hr ⊢
  generalize ρ t=u at*
  cases u<;>simp only[stuck,Sem.run_halt,Result.andThen,reduceCtorEq]at hr ⊢
  rename_i vs
  cases hv:vs[i]?<;>simp only[hv,Sem.run_halt,Sem.run_pure,reduceCtorEq,Result.ok.injEq,Next.value.injEq,and_true]at hr ⊢
  exact hr
theorem zDS {o:Oper} (h:zDz o=true) (ρ:Operand→Value) (w:World):(execOp ρ o).run P w≠ .ok .skip w:=by
 obtain⟨dst,op,type,pos,after,guard⟩:=o
 cases op<;>simp only[zDz]at h<;>try contradiction
 case move x=>simp[execOp]
 case assign x=>simp[execOp]
 case pick c x y=>
  simp only[execOp,Sem.run_bind]
  cases Sem.run P (asBool (ρ c)) w<;>simp[Result.andThen]
 case extract t i=>
  simp only[execOp,Sem.run_bind]
  cases Sem.run P (Instr.extract (ρ t) i) w<;>simp[Result.andThen]
theorem zAw.toK {w0:World} {o:Oper} {v:Value} {a:Act} (h:zAw P ops o v a):zBD X P ops w0 o v a:=
 h.imp (fun⟨hw,hv⟩=>⟨hw,fun w _=> .inl (hv w)⟩) id
theorem zAw.of_same {o:Oper} {v:Value} {a a':Act} (hy:zAw P ops o v a) (he:execOp a'.eval o=execOp a.eval o)
  (hw:Region.wanted o (yielded ops a'.tmps)=Region.wanted o (yielded ops a.tmps)):zAw P ops o v a':=by
 unfold zAw at*
 rw[he,hw]
 exact hy
theorem zFL {j:Nat} {oi oj:Oper} {v:Value} (hj:ops[j]?=some oj) (hap:oi.apart ops oj=true)
  (hsi: ∀cs b,oi.op≠ .select cs b) (hsj: ∀cs b,oj.op≠ .select cs b)
  (hQ: ∀c a w,Q (.panic c) (a.put oi.dst v) w→Q (.panic c) a w) {K:Act→World→Prop} {a:Act} {w:World}
  (hy:zAw P ops oi v a) (h:wpOp P ops Q j K (a.put oi.dst v) w):
  wpOp P ops Q j (fun a' w'=>zAw P ops oi v a'∧K (a'.put oi.dst v) w') a w:=by
 obtain⟨h1,h2,h3⟩:=Oper.apart_spec hap
 have keep: ∀(a:Act),zAw P ops oi v a→ ∀u,zAw P ops oi v (a.put oj.dst u):=fun a hy u=>
  hy.of_same (execOp_put oi hsi a oj.dst u h3) (wanted_put oi a oj.dst u h3)
 have keepD: ∀d,zAw P ops oi v { a with defers:=d::a.defers } :=fun d=>hy.of_same rfl rfl
 unfold wpOp at*
 simp only[hj]at*
 rw[wanted_put oj a oi.dst v h1]at h
 split
 ·rename_i hw
  simp only[hw,if_true]at h
  rcases h with h|⟨hasks,hlets⟩
  case inr=>exact .inr ⟨by unfold Oper.asks at *; rw[execOp_put oj hsj a oi.dst v h1]at hasks;exact hasks,hlets⟩
  refine .inl ?_
  unfold Oper.wp at*
  rw[execOp_put oj hsj a oi.dst v h1]at h
  generalize (execOp a.eval oj).run P w=r at*
  cases r with
  |ok n w'=>
   cases n<;>simp only[Oper.upon]at h ⊢
   case value u=>exact⟨keep a hy u,by rw[←Act.put_comm a v u h2];exact h⟩
   case skip=>exact⟨keep a hy _,by rw[←Act.put_comm a v undef h2];exact h⟩
   case defer d=>
    refine⟨keep _ (keepD d) _,?_⟩
    rw[←Act.put_comm _ v undef h2,←Act.put_defers]
    exact h
   case enter f args=>
    refine Calls.mono h fun e w'' he=>?_
    cases e with
    |returned u=>exact⟨keep a hy u,by rw[←Act.put_comm a v u h2];exact he⟩
    |panicked c=>exact hQ _ _ _ he
    |outgrown=>exact he
   case row row args=>exact Rows.mono h fun u w'' he=>⟨keep a hy u,by rw[←Act.put_comm a v u h2];exact he⟩
  |halt x w'=>
   cases x<;>simp only[Oper.upon]at h ⊢
   case panic u=>exact hQ _ _ _ h
 ·rename_i hw
  simp only[hw]at h
  exact⟨keep a hy _,by rw[←Act.put_comm a v undef h2];exact h⟩
theorem zDF {i:Nat} {oi:Oper} {v:Value} (hi:ops[i]?=some oi) (hsel: ∀(j:Nat) (o:Oper) cs b,ops[j]?=some o→o.op≠ .select cs b)
  (hQ: ∀c a w,Q (.panic c) (a.put oi.dst v) w→Q (.panic c) a w):
  ∀(fuel:Nat) (listed:Array Bool) (a:Act) (w:World),
   (∀j oj,ops[j]?=some oj→j≠i→listed.getD j true=false→(∀e∈oj.after,Region.binds md e=true→e.on≠i)→oi.apart ops oj=true)→
   i∈Region.ready md ops listed→zAw P ops oi v a→
   zCH X P md ops Q n fuel (listed.setIfInBounds i true) (a.put oi.dst v) w→zCH X P md ops Q n (fuel+1) listed a w:=by
 intro fuel
 induction fuel with
 |zero=>
  intro listed a w _ hr hy H
  refine⟨fun h=>(by rw[h]at hr;cases hr),fun j hj=>?_⟩
  by_cases hji:j=i
  ·subst hji;exact(hy.toK (w0:=w) (X:=X)).wpOp hi (zAP.refl w) ⟨fun _=>zAP.refl w,H⟩
  ·have:=ready_mono hj hji
   rw[H.1]at this
   cases this
 |succ fuel ih=>
  intro listed a w hfree hr hy H
  refine⟨fun h=>(by rw[h]at hr;cases hr),fun j hj=>?_⟩
  by_cases hji:j=i
  ·subst hji;exact(hy.toK (w0:=w) (X:=X)).wpOp hi (zAP.refl w) ⟨fun _=>zAP.refl w,H⟩
  ·have h1:=H.2 j (ready_mono hj hji)
   obtain⟨hjun,oj,hoj,hall⟩:=mem_ready.1 hj
   have hun:=(mem_ready.1 hr).1
   have hnot: ∀e∈oj.after,Region.binds md e=true→e.on≠i:=fun e he hb heq=>by
    have h1:=hall e he hb
    rw[heq,getD_both hun]at h1
    cases h1
   have h2:=zFL hoj (hfree j oj hoj hji hjun hnot) (fun cs b=>hsel i oi cs b hi) (fun cs b=>hsel j oj cs b hoj) hQ hy h1
   have hfree': ∀k ok,ops[k]?=some ok→k≠i→(listed.setIfInBounds j true).getD k true=false→
     (∀e∈ok.after,Region.binds md e=true→e.on≠i)→oi.apart ops ok=true:=fun k ok hk hki hun hno=>by
    refine hfree k ok hk hki ?_ hno
    by_cases hjk:j=k
    ·subst hjk;exact hjun
    ·rw[getD_set_ne true hjk]at hun;exact hun
   refine wpOp_mono (fun a' w' h3=>?_) h2
   obtain⟨hy',hk,h4⟩:=h3
   refine⟨hk,ih (listed.setIfInBounds j true) a' w' hfree' (ready_mono hr (Ne.symm hji)) hy' ?_⟩
   rw[Array.setIfInBounds_comm _ _ hji]
   exact h4
def zAJ (X:Option Nat) (P:Program) (ops:Array Oper) (Q:Exit→Act→World→Prop) (tail:List Oper):List (List Oper × Oper)→List Oper→Act→World→Prop
 |[],qs,a,w=>wpQuiet P ops (fun w'=> ∃g,w'=wgr X w g) (fun a'=>wpList P ops Q tail a' w) qs a
 |(bs,e)::segs,qs,a,w=>wpQuiet P ops (fun w'=> ∃g,w'=wgr X w g)
   (fun a'=>wpList P ops (Exit.then (fun a'' w''=>zAP X w w''∧zAJ X P ops Q tail segs qs a'' w'') Q) [e] a' w) bs a
theorem Oper.wp_then {o:Oper} {a:Act} {w:World} {K X:Act→World→Prop} (h:o.wp P a w K (Exit.then X Q)):o.wp P a w K Q:=by
 unfold Oper.wp at*
 generalize (execOp a.eval o).run P w=r at*
 cases r with
 |ok n w'=>
  cases n<;>simp only[Oper.upon]at h ⊢ <;>first
   |exact h
   |exact Calls.mono h fun e w'' he=>by cases e<;>exact he
 |halt x w'=>
  cases x<;>simp only[Oper.upon]at h ⊢
  case panic u=>exact h
theorem zFM {i:Nat} {o:Oper} {a:Act} {w:World} {X:Act→World→Prop} (hi:ops[i]?=some o) (h:wpList P ops (Exit.then X Q) [o] a w):wpOp P ops Q i X a w:=by
 unfold wpOp
 simp only[hi]
 unfold wpList at h
 split
 ·rename_i hw
  rw[if_pos hw]at h
  rcases h with h|⟨ha,hl⟩
  ·exact .inl (Oper.wp_then h)
  ·exact .inr ⟨ha,hl⟩
 ·rename_i hw
  rw[if_neg hw]at h
  exact h
def zDa {α:Type} :Result α→(α→Bool)→Bool
 | .ok x _,p=>p x
 |_,_=>false
def zBj:Next→Bool
 | .enter _ _=>true
 |_=>false
def zEH (o:Oper):Bool:=
 match o.op with
 | .move _| .assign _| .pick _ _ _| .load _ _| .binOp _ _ _ _ _| .unOp _ _ _| .convert _ _ _| .makeInterface _ _| .makeFunc _ _ _
 | .slice _ _ _ _ _| .fieldAddr _ _ _| .field _ _ _| .indexAddr _ _ _| .index _ _ _| .nilCheck _| .extract _ _| .build _ _| .lookup _ _ _ _| .typeAssert _ _ _ _=>true
 | .call c=>match c.callee with
  | .builtin .len| .builtin .cap| .builtin .min| .builtin .max=>true
  |_=>false
 |_=>false
theorem zBy (s:Sem Value) (w:World):zDa ((do pure (Next.value (←s)):Sem Next).run P w) zBj=false:=by
 simp only[Sem.run_bind]
 cases Sem.run P s w<;>simp[zDa,zBj,Result.andThen]
theorem zDU {o:Oper} (h:zEH o=true) (ρ:Operand→Value) (w:World):zDa ((execOp ρ o).run P w) zBj=false:=by
 obtain⟨dst,op,type,pos,after,guard⟩:=o
 cases op<;>simp only[zEH]at h<;>try contradiction
 case move x=>rfl
 case assign x=>rfl
 case pick c a b=>
  simp only[execOp,Sem.run_bind]
  cases Sem.run P (asBool (ρ c)) w<;>simp[zDa,zBj,Result.andThen]
 case nilCheck x=>
  simp only[execOp]
  split
  ·rfl
  ·rfl
  ·rfl
  ·split
   ·rfl
   ·simp only[Sem.run_bind]
    generalize Sem.run P program w=r0
    cases r0 with
    |ok p0 w0=>
     simp only[Result.andThen]
     generalize Sem.run P (nilAhead _ _ _ _) w0=r1
     cases r1 with
     |ok p1 w1=>
      simp only
      split
      ·rfl
      ·rfl
     |halt _ _=>rfl
    |halt _ _=>rfl
   ·rfl
  ·rfl
 case call c=>
  obtain⟨callee,args,ats⟩:=c
  cases callee<;>simp only at h<;>try contradiction
  rename_i b
  cases b<;>simp only at h<;>first|contradiction|exact zBy _ _
 all_goals exact zBy _ _
theorem zC5 {w0:World} {i:Nat} {o:Oper} {a:Act} {K:Act→Prop} (hi:ops[i]?=some o) (hp:zEH o=true)
  (h:qOp P ops (fun w'=> ∃g,w'=wgr X w0 g) i K a): ∃v,zBD X P ops w0 o v a∧K (a.put o.dst v):=by
 unfold qOp at h
 simp only[hi]at h
 by_cases hw:Region.wanted o (yielded ops a.tmps)=true
 ·simp only[hw,if_true]at h
  obtain⟨v,h1,h2⟩:=h
  have key: ∀w,zAP X w0 w→(execOp a.eval o).run P w= .ok (.value v) w∨(v=undef∧(execOp a.eval o).run P w= .ok .skip w):=fun w hk=>by
   have h3:=h1 w ⟨w,(zKa hk).symm⟩
   have h4:=zDU (P:=P) hp a.eval w
   unfold Oper.quietAt at h3
   generalize (execOp a.eval o).run P w=r at*
   cases r with
   |ok x w'=>
    cases x<;>simp only[Oper.quietUpon]at h3
    case value u=>obtain⟨rfl,rfl⟩:=h3;exact .inl rfl
    case skip=>obtain⟨rfl,rfl⟩:=h3;exact .inr ⟨rfl,rfl⟩
    case enter f args=>simp[zDa,zBj]at h4
   |halt x w'=>simp only[Oper.quietUpon]at h3
  exact⟨v,.inl ⟨hw,key⟩,h2⟩
 ·simp only[hw]at h
  exact⟨undef,.inr ⟨by simpa using hw,rfl⟩,h⟩
def zDi (md:Region.Mode) (ops:Array Oper) (n:Nat):List Nat→Array Bool→Bool
 |[],_=>true
 |i::r,listed=>decide (i<n)&&(Region.ready md ops listed).contains i&&Region.free md ops listed i&&(match ops[i]? with|some o=>zEH o|none=>false)&&
   zDi md ops n r (listed.setIfInBounds i true)
def zCU:List Nat→Array Bool→Array Bool
 |[],listed=>listed
 |i::r,listed=>zCU r (listed.setIfInBounds i true)
def zEe (md:Region.Mode) (ops:Array Oper) (n:Nat) (qs:List Nat):List (List Nat × Nat)→Array Bool→Bool
 |[],listed=>zDi md ops n qs listed&&Region.seqB md ops (ops.size - n) n (zCU qs listed)
 |(bs,e)::r,listed=>zDi md ops n bs listed&&decide (e<n)&&decide (Region.ready md ops (zCU bs listed)=[e])&&zEe md ops n qs r ((zCU bs listed).setIfInBounds e true)
def zEx (ops:Array Oper) (i:Nat):Bool:=match ops[i]? with|some o=>zDz o|none=>false
def reachN (md:Region.Mode) (ops:Array Oper) (n:Nat):Nat→Nat→Bool
 |0,_=>false
 |f+1,i=>(List.range (n+1)).any fun j=>decide (i<j)&&Region.waitsFor md ops j i&&(decide (j=n)||reachN md ops n f j)
def zKf (md:Region.Mode) (ops:Array Oper) (n:Nat):Bool:=(List.range n).all fun i=>zEx ops i||reachN md ops n n i
def zHf (md:Region.Mode) (ops:Array Oper) (n:Nat):Bool:=
 decide (n=ops.size)||(decide (n<ops.size)&&zKf md ops n&&Region.chainB md ops n)
theorem zFT {listed:Array Bool} (hs:zKf md ops n=true) (hc:Region.chainB md ops n=true) (hn:n<ops.size) (inv:HeadInv md ops n listed):
  ∀(d i:Nat),n - i=d→i<n→zEx ops i=false→listed.getD i true=false→ ∀t,n≤t→t∉Region.ready md ops listed:=by
 have key: ∀(f i:Nat),reachN md ops n f i=true→i<n→listed.getD i true=false→ ∀t,n≤t→t∉Region.ready md ops listed:=by
  intro f
  induction f with
  |zero=>intro i h;cases h
  |succ f ih=>
   intro i h1 hi hun t ht hr
   obtain⟨_,ot,hot,hall⟩:=mem_ready.1 hr
   have htlt:t<ops.size:=(Array.getElem?_eq_some_iff.1 hot).1
   by_cases htn:t=n
   ·subst htn
    obtain⟨j,hj,hj2⟩:=List.any_eq_true.1 h1
    simp only[Bool.and_eq_true,decide_eq_true_eq,Bool.or_eq_true]at hj2
    obtain⟨⟨hij,hwj⟩,hjn⟩:=hj2
    obtain⟨oj,hoj,e,he,hb,hon⟩:=Region.waitsFor_spec hwj
    have hjle:j≤t:=by have:=List.mem_range.1 hj;omega
    by_cases hjt:j=t
    ·subst hjt
     have:oj=ot:=Option.some.inj (hoj.symm.trans hot)
     subst this
     have h2:=hall e he hb
     rw[hon,getD_both hun]at h2
     cases h2
    ·cases hl:listed.getD j false with
     |true=>
      have h2:=inv.closed j oj hoj hl e he hb
      rw[hon,getD_both hun]at h2
      cases h2
     |false=>
      have hjs:j<listed.size:=by rw[inv.size];omega
      exact ih j (hjn.resolve_left hjt) (by omega) (getD_in hjs hl) t (Nat.le_refl _) hr
   ·have h1:=List.all_eq_true.1 hc t (List.mem_range.2 htlt)
    simp only[Bool.or_eq_true,decide_eq_true_eq]at h1
    rcases h1 with h1|h1
    ·omega
    ·obtain⟨o',ho',e,he,hb,hon⟩:=Region.waitsFor_spec h1
     have:o'=ot:=Option.some.inj (ho'.symm.trans hot)
     subst this
     have h2:=hall e he hb
     rw[hon,getD_both (inv.tail (t - 1) (by omega) (by omega))]at h2
     cases h2
 intro d i _ hi hpi hun
 have h1:=List.all_eq_true.1 hs i (List.mem_range.2 hi)
 rw[hpi,Bool.false_or]at h1
 exact key n i h1 hi hun
def zLb (md:Region.Mode) (ops:Array Oper) (n:Nat) (segs:List (List Nat × Nat)) (qs:List Nat):Bool:=
 Region.noSelect ops&&decide (n≤ops.size)&&zHf md ops n&&zEe md ops n qs segs (Array.replicate ops.size false)
theorem zJ3 (h:zHf md ops n=true) (i:Nat) (hin:i<n) (hp:zEx ops i=false): ∀listed:Array Bool,HeadInv md ops n listed→listed.getD i true=false→ ∀t,n≤t→t∉Region.ready md ops listed:=by
 intro listed inv hun t ht hr
 simp only[zHf,Bool.or_eq_true,decide_eq_true_eq,Bool.and_eq_true]at h
 rcases h with h|⟨⟨h1,h2⟩,h3⟩
 ·obtain⟨_,o,ho,_⟩:=mem_ready.1 hr
  have:=(Array.getElem?_eq_some_iff.1 ho).1
  omega
 ·exact zFT h2 h3 h1 inv _ i rfl hin hp hun t ht hr
def zFX (n size:Nat) (qs:List Nat):List (List Nat × Nat)→Nat
 |[]=>qs.length+(size - n)
 |(bs,_)::r=>bs.length+(1+zFX n size qs r)
theorem zDh {w:World} (hsel:Region.noSelect ops=true) (hw:zHf md ops n=true) (hQ: ∀c a (d:Option Tmp) v w,Q (.panic c) (a.put d v) w→Q (.panic c) a w) {fuel:Nat} {N:Act→Prop} :
  ∀(is:List Nat) (listed:Array Bool) (a:Act),HeadInv md ops n listed→zDi md ops n is listed=true→
   (∀a',HeadInv md ops n (zCU is listed)→N a'→zCH X P md ops Q n fuel (zCU is listed) a' w)→
   wpQuiet P ops (fun w'=> ∃g,w'=wgr X w g) N (is.filterMap (ops[·]?)) a→zCH X P md ops Q n (is.length+fuel) listed a w
 |[],listed,a,inv,_,hN,h=>by simpa [zCU]using hN a inv h
 |i::r,listed,a,inv,hB,hN,h=>by
  simp only[zDi,Bool.and_eq_true,decide_eq_true_eq]at hB
  obtain⟨⟨⟨⟨hin,hr⟩,hf⟩,hp⟩,hB'⟩:=hB
  have hr':i∈Region.ready md ops listed:=by simpa using hr
  obtain⟨_,o,ho,_⟩:=mem_ready.1 hr'
  simp only[ho]at hp
  have hq:qOp P ops (fun w'=> ∃g,w'=wgr X w g) i (wpQuiet P ops (fun w'=> ∃g,w'=wgr X w g) N (r.filterMap (ops[·]?))) a:=by
   unfold qOp
   simp only[ho]
   simp only[List.filterMap_cons,ho]at h
   exact h
  obtain⟨v,hy,hK⟩:=zC5 ho hp hq
  have this:=zDh (fuel:=fuel) hsel hw hQ r (listed.setIfInBounds i true) (a.put o.dst v) (inv.set hr' hin) hB' hN hK
  rw[List.length_cons,show r.length+1+fuel=r.length+fuel+1 by omega]
  cases hpa:zEx ops i with
  |false=>exact zET (w0:=w) ho (Region.noSelect_spec hsel) (fun c a w=>hQ c a _ _ w) hin (zJ3 hw i hin hpa) (r.length+fuel) listed a w inv (Region.free_spec ho hf) hr' hy (zAP.refl w) this
  |true=>
   have hpo:zDz o=true:=by simpa [zEx,ho]using hpa
   have hall:zAw P ops o v a:=by
    rcases hy with ⟨hwa,hv⟩|hy
    ·rcases hv w (zAP.refl (X:=X) w)with h1|⟨_,h1⟩
     ·exact .inl ⟨hwa,zHA hpo a.eval h1⟩
     ·exact absurd h1 (zDS hpo a.eval w)
    ·exact .inr hy
   exact zDF ho (Region.noSelect_spec hsel) (fun c a w=>hQ c a _ _ w) (r.length+fuel) listed a w (Region.free_spec ho hf) hr' hall this
theorem zGF: ∀(l:List Oper) (k:Nat) (listed:Array Bool) (a:Act) (w:World),n≤k→(∀j,l[j]?=ops[k+j]?)→
  Region.seqB md ops l.length k listed=true→wpList P ops Q l a w→zCH X P md ops Q n l.length listed a w
 |[],_,_,_,_,_,_,hB,h=>⟨by simpa [Region.seqB]using hB,h⟩
 |o::l,k,listed,a,w,hk,hl,hB,h=>by
  have h0:ops[k]?=some o:=by simpa using (hl 0).symm
  simp only[List.length_cons,Region.seqB,Bool.and_eq_true,decide_eq_true_eq]at hB
  refine⟨fun h1=>(by rw[hB.1]at h1;cases h1),fun i hi=>?_⟩
  rw[hB.1]at hi
  have hik:i=k:=by simpa using hi
  subst hik
  have hw:wpOp P ops Q i (wpList P ops Q l) a w:=by unfold wpOp;simp only[h0];exact h
  exact wpOp_mono (fun a' w' h'=>⟨fun hlt=>absurd hlt (by omega),zGF l (i+1) _ a' w' (by omega) (fun j=>by have:=hl (j+1);simpa [Nat.add_assoc,Nat.add_comm 1 j]using this) hB.2 h'⟩) hw
theorem zGG {tail:List Oper} (hsel:Region.noSelect ops=true) (hw:zHf md ops n=true) (hQ: ∀c a (d:Option Tmp) v w,Q (.panic c) (a.put d v) w→Q (.panic c) a w)
  (ht: ∀j,tail[j]?=ops[n+j]?) (htl:tail.length=ops.size - n) (qs:List Nat):
  ∀(segs:List (List Nat × Nat)) (listed:Array Bool) (a:Act) (w:World),HeadInv md ops n listed→zEe md ops n qs segs listed=true→
   zAJ X P ops Q tail (segs.map fun p=>(p.1.filterMap (ops[·]?),ops.getD p.2 default)) (qs.filterMap (ops[·]?)) a w→
   zCH X P md ops Q n (zFX n ops.size qs segs) listed a w
 |[],listed,a,w,inv,hB,h=>by
  simp only[zEe,Bool.and_eq_true]at hB
  refine zDh hsel hw hQ qs listed a inv hB.1 (fun a' _ hN=>?_) h
  rw[←htl]
  exact zGF tail n _ a' w (Nat.le_refl _) ht (by rw[htl];exact hB.2) hN
 |(bs,e)::r,listed,a,w,inv,hB,h=>by
  simp only[zEe,Bool.and_eq_true,decide_eq_true_eq]at hB
  obtain⟨⟨⟨hb,hen⟩,hre⟩,hB'⟩:=hB
  refine zDh hsel hw hQ bs listed a inv hb (fun a' inv' hN=>?_) h
  rw[Nat.add_comm 1]
  refine⟨fun h1=>(by rw[hre]at h1;cases h1),fun i hi=>?_⟩
  have hie:i=e:=by rw[hre]at hi;simpa using hi
  subst hie
  obtain⟨_,o,ho,_⟩:=mem_ready.1 hi
  have hget:ops.getD i default=o:=by simp[Array.getD_eq_getD_getElem?,ho]
  rw[hget]at hN
  exact wpOp_mono (fun a'' w'' h'=>⟨fun _=>h'.1,zGG hsel hw hQ ht htl qs r _ a'' w'' (inv'.set hi hen) hB' h'.2⟩) (zFM ho hN)
end
def zBr (l:List Oper):List Nat→List Oper
 |[]=>[]
 |i::r=>l.getD i default::zBr l r
theorem zAD (l:List Oper):zBr l []=[]:=rfl
theorem zAB (l:List Oper) (i:Nat) (r:List Nat):zBr l (i::r)=l.getD i default::zBr l r:=rfl
theorem zCp {md:Region.Mode} {n:Nat} (l:List Oper): ∀(is:List Nat) (listed:Array Bool),zDi md l.toArray n is listed=true→zBr l is=is.filterMap (l.toArray[·]?)
 |[],_,_=>rfl
 |i::r,listed,h=>by
  simp only[zDi,Bool.and_eq_true,decide_eq_true_eq]at h
  obtain⟨⟨_,hp⟩,h'⟩:=h
  rw[zAB,zCp l r _ h',List.filterMap_cons]
  split at hp
  ·rename_i o ho
   have:l.getD i default=o:=by simp at ho;simp[List.getD_eq_getElem?_getD,ho]
   simp only[ho,this]
  ·cases hp
def zCC (l:List Oper):List (List Nat × Nat)→List (List Oper × Oper)
 |[]=>[]
 |(bs,e)::r=>(zBr l bs,l.getD e default)::zCC l r
theorem zAC (l:List Oper):zCC l []=[]:=rfl
theorem zAG (l:List Oper) (bs:List Nat) (e:Nat) (r:List (List Nat × Nat)):zCC l ((bs,e)::r)=(zBr l bs,l.getD e default)::zCC l r:=rfl
theorem zGK {md:Region.Mode} {n:Nat} {qs:List Nat} (l:List Oper): ∀(segs:List (List Nat × Nat)) (listed:Array Bool),zEe md l.toArray n qs segs listed=true→
  zCC l segs=segs.map (fun p=>(p.1.filterMap (l.toArray[·]?),l.toArray.getD p.2 default))∧zBr l qs=qs.filterMap (l.toArray[·]?)
 |[],listed,h=>by
  simp only[zEe,Bool.and_eq_true]at h
  exact⟨rfl,zCp l qs _ h.1⟩
 |(bs,e)::r,listed,h=>by
  simp only[zEe,Bool.and_eq_true,decide_eq_true_eq]at h
  obtain⟨h1,h2⟩:=zGK l r _ h.2
  refine⟨?_,h2⟩
  rw[zAG,List.map_cons,h1,zCp l bs _ h.1.1.1]
  simp[Array.getD_eq_getD_getElem?,List.getD_eq_getElem?_getD]
theorem zAA {P:Program} {Q:Exit→Act→World→Prop} {id:Nat} {a:Act} {w:World} {l:List Oper} (n:Nat) (segs:List (List Nat × Nat)) (qs:List Nat) (hm:P.follows .mixedOrders=true)
  (hB:zLb .any l.toArray n segs qs=true) (hlen:zFX n l.toArray.size qs segs=l.toArray.size)
  (hQ: ∀c (a:Act) (d:Tmp) v w,Q (.panic c) { a with tmps:=a.tmps.setIfInBounds d v } w→Q (.panic c) a w)
  (h:zAJ X P l.toArray Q (l.drop n) (zCC l segs) (zBr l qs) a w.drew):(Code.region id l.toArray true).wp P Q a w:=by
 simp only[zLb,Bool.and_eq_true,decide_eq_true_eq]at hB
 obtain⟨⟨⟨hsel,hn⟩,hw⟩,hs⟩:=hB
 refine wp_region_any hm (zDn (X:=X) (n:=n) _ _ _ _ ?_)
 have inv0:HeadInv .any l.toArray n (Array.replicate l.toArray.size false):=
  ⟨by simp,fun j oj _ hl=>(by rw[getD_replicate_false]at hl;cases hl),fun t _ ht=>getD_in (by simpa using ht) (getD_replicate_false _ _)⟩
 have:=zGG (P:=P) (Q:=Q) hsel hw (fun c a d v w h=>by cases d with|none=>exact h|some d=>exact hQ c a d v w h) (tail:=l.drop n) (fun j=>by simp[List.getElem?_drop]) (by simp) qs segs _ a w.drew inv0 hs (by obtain⟨h1,h2⟩:=zGK l segs _ hs;rw[h1,h2]at h;exact h)
 rw[hlen]at this
 exact this
def zKZ (X:Option Nat) (P:Program) (ops:Array Oper) (Q:Exit→Act→World→Prop) (tail:List Oper) (f:Oper):List (List Oper × Oper)→List Oper→Act→World→Prop
 |[],qs,a,w=>zAJ X P ops Q tail [(qs,f)] [] a w
 |(bs,e)::segs,qs,a,w=>wpQuiet P ops (fun w'=> ∃g,w'=wgr X w g)
   (fun a'=>wpList P ops (Exit.then (fun a'' w''=>zAP X w w''∧zKZ X P ops Q tail f segs qs a'' w'') Q) [e] a' w∧
    wpList P ops (Exit.then (fun a'' w''=>zAP X w w''∧zAJ X P ops Q tail (([],e)::segs) qs a'' w'') Q) [f] a' w) bs a
section
variable {P:Program} {ops:Array Oper} {Q:Exit→Act→World→Prop} {md:Region.Mode} {n:Nat}
end
end
section
structure Rq where
 nm:Nat
 tx:List Nat
 wr:Bool
 ok:Bool
def Rq.wrC (c:Rq):Bool:=c.nm==119||(c.nm==115&&c.wr)
def zDC (t:List Nat):Bool:=t.take 8==[46,103,97,108,108,101,121,45]
def Rq.low (c:Rq) (i:Nat):Bool:=decide (i<4096)&&c.ok&& !((c.nm==114||c.wrC)&&zDC c.tx)
def zAO:List Rq→List (List Nat)→List (List Nat)
 |[],f=>f
 |c::r,f=>zAO r (if c.wrC&& !(f.contains c.tx)then f++[c.tx]else f)
def zBM (t:List Nat):List (List Nat × Nat)→Option Nat
 |[]=>none
 |(a,k)::r=>if a=t then some k else zBM t r
structure Rp where
 op:List Nat
 la:List (List Nat × Nat)
 to:List Int
def p1c (i:Nat) (c:Rq) (s:Rp):Option Rp:=
 if c.low i then
  if c.nm=123 then if s.op.length=64 then none else some ⟨i::s.op,s.la,s.to.set i (-1)⟩
  else if c.nm=125 then match s.op with
   |[]=>none
   |j::op=>some ⟨op,s.la,(s.to.set i (-1)).set j ((i:Int)+1)⟩
  else if c.nm=58 then match zBM c.tx s.la with
   |some _=>none
   |none=>some ⟨s.op,s.la++[(c.tx,i+1)],s.to.set i (-1)⟩
  else some ⟨s.op,s.la,s.to.set i (-1)⟩
 else none
def p1S:List Rq→Nat→Rp→Option Rp
 |[],_,s=>some s
 |c::r,i,s=>match p1c i c s with
  |none=>none
  |some s'=>p1S r (i+1) s'
def p2S (n:Nat) (la:List (List Nat × Nat)):List Rq→Nat→List Int→Option (List Int)
 |[],_,to=>some to
 |c::r,i,to=>if c.nm=98∨c.nm=116 then
   if c.tx=[]then p2S n la r (i+1) (to.set i n)else match zBM c.tx la with
    |none=>none
    |some k=>p2S n la r (i+1) (to.set i k)
  else p2S n la r (i+1) to
def zCR (l:List Rq):Option (List Int):=
 match p1S l 0 ⟨[],[],List.replicate l.length 0⟩with
 |none=>none
 |some s=>if s.op=[]then p2S l.length s.la l 0 s.to else none
def zDf (c:Rq) (o:Int):Int:=if c.nm=123 then o+1 else if c.nm=125 then o - 1 else o
def zAW:List Rq→Nat→Int→Int
 |[],_,_=> -1
 |c::r,i,o=>if zDf c o=0 then i else zAW r (i+1) (zDf c o)
def zAh (t:List Nat):List Rq→Nat→Int
 |[],_=> -1
 |c::r,i=>if c.nm=58∧c.tx=t then i else zAh t r (i+1)
def zBK:List Rq→Int→Int
 |[],o=>o
 |c::r,o=>zBK r (zDf c o)
def okR (l:List Rq) (i:Nat) (c:Rq):Bool:=
 c.low i&& !(c.nm==125&&zBK (l.take i) 0==0)&& !(c.nm==123&&zBK (l.take i) 0==64)&& !(c.nm==58&&decide (0≤zAh c.tx (l.take i) 0))
def toR (l:List Rq) (i:Nat) (c:Rq):Int:=
 if c.nm=123 then zAW (l.drop i) i 0+1
 else if c.nm=98∨c.nm=116 then if c.tx=[]then l.length else if zAh c.tx l 0<0 then -2 else zAh c.tx l 0+1
 else -1
def r1S (l:List Rq):List Rq→Nat→Bool
 |[],_=>true
 |c::r,i=>okR l i c&&r1S l r (i+1)
def r2S (l:List Rq):List Rq→Nat→Bool
 |[],_=>true
 |c::r,i=> !(c.nm==123&&decide (zAW (l.drop i) i 0<0))&&r2S l r (i+1)
def r3S (l:List Rq):List Rq→Nat→Option (List Int)
 |[],_=>some []
 |c::r,i=>if toR l i c= -2 then none else(r3S l r (i+1)).map (toR l i c:: ·)
def zFn (l:List Rq):Option (List Int):=if r1S l l 0&&r2S l l 0 then r3S l l 0 else none
theorem zCg (x y:List Rq) (o:Int):zBK (x++y) o=zBK y (zBK x o):=by
 induction x generalizing o with
 |nil=>rfl
 |cons c r ih=>exact ih _
theorem zFH (x:List Rq) (i:Nat) (o:Int):zAW x i o= -1∨(i:Int)≤zAW x i o:=by
 induction x generalizing i o with
 |nil=>exact .inl rfl
 |cons c r ih=>
  rw[zAW]
  split
  ·exact .inr (Int.le_refl _)
  ·rcases ih (i+1) (zDf c o)with h|h
   ·exact .inl h
   ·exact .inr (by omega)
theorem zHW (x y:List Rq) (i:Nat) (o:Int) (h:zAW x i o= -1):zAW (x++y) i o=zAW y (i+x.length) (zBK x o):=by
 induction x generalizing i o with
 |nil=>rfl
 |cons c r ih=>
  rw[zAW]at h
  split at h
  ·omega
  ·rename_i hd
   rw[List.cons_append,zAW,if_neg hd,ih _ _ h,zBK,List.length_cons,show i+1+r.length=i+(r.length+1)by omega]
theorem zHV (x y:List Rq) (i:Nat) (o:Int) (h:zAW x i o≠ -1):zAW (x++y) i o=zAW x i o:=by
 induction x generalizing i o with
 |nil=>exact absurd rfl h
 |cons c r ih=>
  rw[List.cons_append,zAW,zAW]
  rw[zAW]at h
  split
  ·rfl
  ·rename_i hd
   rw[if_neg hd]at h
   exact ih _ _ h
theorem zD3 (t:List Nat) (x y:List Rq) (i:Nat):zAh t (x++y) i=if zAh t x i= -1 then zAh t y (i+x.length)else zAh t x i:=by
 induction x generalizing i with
 |nil=>rfl
 |cons c r ih=>
  rw[List.cons_append,zAh,zAh]
  split
  ·rw[if_neg (by omega)]
  ·rw[ih,List.length_cons,show i+1+r.length=i+(r.length+1)by omega]
def LaS (a:List Rq) (la:List (List Nat × Nat)):Prop:= ∀t,(zBM t la=none→zAh t a 0= -1)∧ ∀k,zBM t la=some k→zAh t a 0=(k:Int) - 1∧1≤k
theorem zHS (t u:List Nat) (k:Nat) (la:List (List Nat × Nat)):zBM t (la++[(u,k)])=match zBM t la with
  |some m=>some m
  |none=>if u=t then some k else none:=by
 induction la with
 |nil=>simp only[List.nil_append,zBM]
 |cons p r ih=>
  obtain⟨b,m⟩:=p
  rw[List.cons_append,zBM,zBM]
  split
  ·rfl
  ·exact ih
theorem LaS.nil:LaS [] []:=fun t=>⟨fun _=>rfl,fun k h=>by cases h⟩
theorem LaS.other {a:List Rq} {la:List (List Nat × Nat)} (h:LaS a la) {c:Rq} (hc:c.nm≠58):LaS (a++[c]) la:=fun t=>by
 have e:zAh t (a++[c]) 0=zAh t a 0:=by
  rw[zD3]
  split
  ·rename_i h1;rw[h1,zAh,if_neg (fun hh=>hc hh.1)];rfl
  ·rfl
 rw[e];exact h t
theorem LaS.new {a:List Rq} {la:List (List Nat × Nat)} (h:LaS a la) {c:Rq} (hc:c.nm=58):LaS (a++[c]) (la++[(c.tx,a.length+1)]):=fun t=>by
 rw[zHS,zD3]
 cases hf:zBM t la with
 |some m=>
  obtain⟨h1,h2⟩:=(h t).2 m hf
  refine⟨fun h=>by simp at h,fun k hk=>?_⟩
  have:m=k:=by simpa using hk
  subst this
  rw[if_neg (by omega)]
  exact⟨h1,h2⟩
 |none=>
  rw[if_pos ((h t).1 hf),zAh]
  by_cases ht:c.tx=t
  ·rw[if_pos ht,if_pos (⟨hc,ht⟩:c.nm=58∧c.tx=t)]
   refine⟨fun h=>by simp at h,fun k hk=>?_⟩
   have:a.length+1=k:=by simpa using hk
   omega
  ·rw[if_neg ht,if_neg (fun hh:c.nm=58∧c.tx=t=>ht hh.2)]
   exact⟨fun _=>rfl,fun k hk=>by simp at hk⟩
structure Opn (a:List Rq) (j m:Nat):Prop where
 lt:j<a.length
 cl:zAW (a.drop j) j 0= -1
 dp:zBK (a.drop j) 0=(m:Int)+1
 nm: ∀c:Rq,a[j]?=some c→c.nm=123
structure RpI (a:List Rq) (n:Nat) (s:Rp):Prop where
 ln:s.to.length=n
 la:LaS a s.la
 op: ∀m j,s.op[m]?=some j→Opn a j m
 dp:zBK a 0=(s.op.length:Int)
 cl: ∀(j:Nat) (c:Rq),a[j]?=some c→c.nm=123→j∉s.op→0≤zAW (a.drop j) j 0∧s.to[j]?=some (zAW (a.drop j) j 0+1)
 no: ∀(j:Nat) (c:Rq),a[j]?=some c→c.nm≠123→s.to[j]?=some (-1)
theorem RpI.nil (n:Nat):RpI [] n ⟨[],[],List.replicate n 0⟩:=⟨List.length_replicate,.nil,fun m j h=>by simp at h,rfl,fun j c h=>by simp at h,fun j c h=>by simp at h⟩
theorem zCG {c:Rq} (h:c.nm≠123) (h':c.nm≠125) (o:Int):zDf c o=o:=by rw[zDf,if_neg h,if_neg h']
theorem zBp {α:Type} {a:List α} {c d:α} {j:Nat} (h:(a++[c])[j]?=some d):a[j]?=some d∨(j=a.length∧d=c):=by
 by_cases e:j<a.length
 ·rw[List.getElem?_append_left e]at h;exact .inl h
 ·rw[List.getElem?_append_right (by omega)]at h
  by_cases e2:j - a.length=0
  ·rw[e2]at h;exact .inr ⟨by omega,by simpa using h.symm⟩
  ·have:=(List.getElem?_eq_some_iff.1 h).1;simp at this;omega
theorem zDg {a:List Rq} {c:Rq} {j:Nat} (hj:j<a.length) (h:0≤zAW (a.drop j) j 0):zAW ((a++[c]).drop j) j 0=zAW (a.drop j) j 0:=by
 rw[List.drop_append_of_le_length (by omega)]
 exact zHV _ _ _ _ (by omega)
theorem zIC {a:List Rq} {c:Rq} {j m:Nat} (h:Opn a j m):zBK ((a++[c]).drop j) 0=zDf c ((m:Int)+1):=by
 rw[List.drop_append_of_le_length (by have:=h.lt;omega),zCg,h.dp];rfl
theorem zD6 {a:List Rq} {c:Rq} {j m:Nat} (h:Opn a j m):zAW ((a++[c]).drop j) j 0=if zDf c ((m:Int)+1)=0 then(a.length:Int)else -1:=by
 have:=h.lt
 rw[List.drop_append_of_le_length (by omega),zHW _ _ _ _ h.cl,h.dp,zAW,List.length_drop,show j+(a.length - j)=a.length by omega];rfl
theorem Opn.snoc {a:List Rq} {c:Rq} {j m m':Nat} (h:Opn a j m) (hd:zDf c ((m:Int)+1)=(m':Int)+1):Opn (a++[c]) j m':=
 ⟨by have:=h.lt;simp;omega,by rw[zD6 h,if_neg (by omega)],by rw[zIC h,hd],fun d hdd=>by
  rcases zBp hdd with hdd|⟨e,_⟩
  ·exact h.nm d hdd
  ·have:=h.lt;omega⟩
theorem zCd {l:List Int} {i j:Nat} {v w:Int} (h:l[j]?=some v) (hne:i≠j):(l.set i w)[j]?=some v:=by rw[List.getElem?_set_ne hne];exact h
theorem RpI.plain {a:List Rq} {n:Nat} {s:Rp} (h:RpI a n s) {c:Rq} (h1:c.nm≠123) (h2:c.nm≠125) (hn:a.length<n) {la:List (List Nat × Nat)} (hl:LaS (a++[c]) la):
  RpI (a++[c]) n ⟨s.op,la,s.to.set a.length (-1)⟩:=by
 refine⟨by rw[List.length_set];exact h.ln,hl,fun m j hj=>(h.op m j hj).snoc (zCG h1 h2 _),by rw[zCg,h.dp];exact zCG h1 h2 _,fun j d hd h3 hj=>?_,fun j d hd h3=>?_⟩
 ·rcases zBp hd with hd|⟨_,rfl⟩
  ·have hlt:=(List.getElem?_eq_some_iff.1 hd).1
   obtain⟨h4,h5⟩:=h.cl j d hd h3 hj
   rw[zDg hlt h4]
   exact⟨h4,zCd h5 (by omega)⟩
  ·exact absurd h3 h1
 ·rcases zBp hd with hd|⟨rfl,rfl⟩
  ·have hlt:=(List.getElem?_eq_some_iff.1 hd).1
   exact zCd (h.no j d hd h3) (by omega)
  ·exact List.getElem?_set_self (by rw[h.ln];exact hn)
theorem RpI.opens {a:List Rq} {n:Nat} {s:Rp} (h:RpI a n s) {c:Rq} (h1:c.nm=123):
  RpI (a++[c]) n ⟨a.length::s.op,s.la,s.to.set a.length (-1)⟩:=by
 have hd: ∀o,zDf c o=o+1:=fun o=>if_pos h1
 refine⟨by rw[List.length_set];exact h.ln,h.la.other (by omega),fun m j hj=>?_,by rw[zCg,h.dp,zBK,zBK,hd];simp,fun j d hdd h3 hj=>?_,fun j d hdd h3=>?_⟩
 ·cases m with
  |zero=>
   have:a.length=j:=by simpa using hj
   subst this
   refine⟨by simp,?_,?_,fun d hdd=>?_⟩
   ·rw[List.drop_left,zAW,if_neg (by rw[hd];omega)];rfl
   ·rw[List.drop_left,zBK,zBK,hd];rfl
   ·rcases zBp hdd with hdd|⟨_,rfl⟩
    ·have:=(List.getElem?_eq_some_iff.1 hdd).1;omega
    ·exact h1
  |succ m=>exact(h.op m j (by simpa using hj)).snoc (by rw[hd];omega)
 ·rcases zBp hdd with hdd|⟨rfl,_⟩
  ·have hlt:=(List.getElem?_eq_some_iff.1 hdd).1
   obtain⟨h4,h5⟩:=h.cl j d hdd h3 (fun hh=>hj (List.mem_cons_of_mem _ hh))
   rw[zDg hlt h4]
   exact⟨h4,zCd h5 (by omega)⟩
  ·exact absurd (List.mem_cons_self) hj
 ·rcases zBp hdd with hdd|⟨_,rfl⟩
  ·have hlt:=(List.getElem?_eq_some_iff.1 hdd).1
   exact zCd (h.no j d hdd h3) (by omega)
  ·exact absurd h1 h3
theorem RpI.closes {a:List Rq} {n:Nat} {s:Rp} (h:RpI a n s) {c:Rq} (h1:c.nm=125) (hn:a.length<n) {k:Nat} {op:List Nat} (ho:s.op=k::op):
  RpI (a++[c]) n ⟨op,s.la,(s.to.set a.length (-1)).set k ((a.length:Int)+1)⟩:=by
 have hd: ∀o,zDf c o=o - 1:=fun o=>by rw[zDf,if_neg (by omega),if_pos h1]
 have hk:=h.op 0 k (by rw[ho];rfl)
 have hkl:=hk.lt
 refine⟨by rw[List.length_set,List.length_set];exact h.ln,h.la.other (by omega),fun m j hj=>?_,by rw[zCg,h.dp,zBK,zBK,hd,ho,List.length_cons];show(((op.length+1:Nat):Int) - 1)=(op.length:Int);omega,fun j d hdd h3 hj=>?_,fun j d hdd h3=>?_⟩
 ·exact(h.op (m+1) j (by rw[ho];exact hj)).snoc (by rw[hd];omega)
 ·rcases zBp hdd with hdd|⟨_,rfl⟩
  ·have hlt:=(List.getElem?_eq_some_iff.1 hdd).1
   by_cases e:k=j
   ·subst e
    rw[zD6 hk,if_pos (by rw[hd];omega)]
    refine⟨by omega,List.getElem?_set_self (by rw[List.length_set,h.ln];omega)⟩
   ·obtain⟨h4,h5⟩:=h.cl j d hdd h3 (fun hh=>by
     rw[ho]at hh
     rcases List.mem_cons.1 hh with e2|hh
     ·exact e e2.symm
     ·exact hj hh)
    rw[zDg hlt h4]
    exact⟨h4,zCd (zCd h5 (by omega)) e⟩
  ·omega
 ·rcases zBp hdd with hdd|⟨rfl,rfl⟩
  ·have hlt:=(List.getElem?_eq_some_iff.1 hdd).1
   exact zCd (zCd (h.no j d hdd h3) (by omega)) (fun e=>h3 (hk.nm d (e▸hdd)))
  ·exact zCd (List.getElem?_set_self (by rw[h.ln];exact hn)) (by omega)
theorem zKk {a r:List Rq} {n:Nat} {s:Rp} (h:RpI a n s) (c:Rq) (hn:a.length<n):match p1c a.length c s with
  |none=>okR (a++c::r) a.length c=false
  |some s'=>okR (a++c::r) a.length c=true∧RpI (a++[c]) n s':=by
 have hd:=h.dp
 have hl:=h.la c.tx
 rw[p1c,okR,List.take_left,hd]
 by_cases hlow:c.low a.length=true
 ·rw[if_pos hlow,hlow]
  by_cases h1:c.nm=123
  ·rw[if_pos h1]
   by_cases h64:s.op.length=64
   ·rw[if_pos h64];simp[h1,h64]
   ·rw[if_neg h64]
    refine⟨by simp[h1];omega,h.opens h1⟩
  ·rw[if_neg h1]
   by_cases h2:c.nm=125
   ·rw[if_pos h2]
    cases ho:s.op with
    |nil=>simp[h2]
    |cons k op=>
     refine⟨by simp[h2];omega,h.closes h2 hn ho⟩
   ·rw[if_neg h2]
    by_cases h3:c.nm=58
    ·rw[if_pos h3]
     cases hf:zBM c.tx s.la with
     |none=>
      refine⟨by simp[h3,hl.1 hf],h.plain h1 h2 hn (h.la.new h3)⟩
     |some k=>
      have:=hl.2 k hf
      simp[h3,this.1];omega
    ·rw[if_neg h3]
     refine⟨by simp[h1,h2,h3],h.plain h1 h2 hn (h.la.other h3)⟩
 ·rw[if_neg hlow]
  simp only[Bool.not_eq_true]at hlow
  rw[hlow];simp
theorem zKl (r:List Rq) {a:List Rq} {n:Nat} {s:Rp} (h:RpI a n s) (hn:a.length+r.length≤n):match p1S r a.length s with
  |none=>r1S (a++r) r a.length=false
  |some s'=>r1S (a++r) r a.length=true∧RpI (a++r) n s':=by
 induction r generalizing a s with
 |nil=>exact⟨rfl,by rw[List.append_nil];exact h⟩
 |cons c r ih=>
  have h1:=zKk (r:=r) h c (by rw[List.length_cons]at hn;omega)
  rw[p1S,r1S]
  cases hp:p1c a.length c s with
  |none=>
   rw[hp]at h1
   simp only at h1 ⊢
   rw[h1];rfl
  |some s'=>
   rw[hp]at h1
   simp only at h1 ⊢
   obtain⟨h2,h3⟩:=h1
   have h4:=ih h3 (by rw[List.length_cons]at hn;simp;omega)
   rw[List.append_assoc,List.singleton_append,List.length_append,List.length_singleton]at h4
   rw[h2,Bool.true_and]
   exact h4
theorem zH7 (l:List Rq) (r:List Rq) (i:Nat) (hr:l.drop i=r):r2S l r i=true↔ ∀j c,i≤j→l[j]?=some c→c.nm=123→0≤zAW (l.drop j) j 0:=by
 induction r generalizing i with
 |nil=>
  refine⟨fun _ j c hj hc=>?_,fun _=>rfl⟩
  have h1:=(List.getElem?_eq_some_iff.1 hc).1
  have h2:=congrArg List.length hr
  simp at h2;omega
 |cons c r ih=>
  have hi:l[i]?=some c:=by
   have:=congrArg (·[0]?) hr
   simpa using this
  have hr':l.drop (i+1)=r:=by
   have:=congrArg (·.drop 1) hr
   simpa [Nat.add_comm]using this
  rw[r2S,Bool.and_eq_true,ih (i+1) hr']
  refine⟨fun⟨h1,h2⟩ j d hj hd h3=>?_,fun h=>⟨?_,fun j d hj hd h3=>h j d (by omega) hd h3⟩⟩
  ·by_cases e:i=j
   ·subst e
    rw[hi]at hd
    obtain rfl:c=d:=by simpa using hd
    simp[h3]at h1
    exact h1
   ·exact h2 j d (by omega) hd h3
  ·by_cases h3:c.nm=123
   ·have:=h i c (Nat.le_refl _) hi h3
    simp;exact .inr this
   ·simp[h3]
theorem zKj (l:List Rq) {la:List (List Nat × Nat)} (hla:LaS l la) (r:List Rq) (i:Nat) (hr:l.drop i=r) (to:List Int) (hto:to.length=l.length)
  (hcl: ∀j c,i≤j→l[j]?=some c→to[j]?=some (if c.nm=123 then zAW (l.drop j) j 0+1 else -1)):p2S l.length la r i to=(r3S l r i).map (to.take i++ ·):=by
 induction r generalizing i to with
 |nil=>
  have h2:=congrArg List.length hr
  simp at h2
  simp[p2S,r3S,List.take_of_length_le (show to.length≤i by omega)]
 |cons c r ih=>
  have hi:l[i]?=some c:=by
   have:=congrArg (·[0]?) hr
   simpa using this
  have hr':l.drop (i+1)=r:=by
   have:=congrArg (·.drop 1) hr
   simpa [Nat.add_comm]using this
  have hil:=(List.getElem?_eq_some_iff.1 hi).1
  have hcur:=hcl i c (Nat.le_refl _) hi
  have key: ∀v:Int,v=toR l i c→v≠ -2→p2S l.length la r (i+1) (to.set i v)=(if toR l i c= -2 then none else(r3S l r (i+1)).map (toR l i c:: ·)).map (to.take i++ ·):=fun v hv hn=>by
   subst hv
   rw[if_neg hn,ih (i+1) hr' _ (by rw[List.length_set];exact hto) (fun j d hj hd=>by rw[List.getElem?_set_ne (by omega)];exact hcl j d (by omega) hd)]
   have e:(to.set i (toR l i c)).take (i+1)=to.take i++[toR l i c]:=by
    rw[List.take_add_one,List.getElem?_set_self (by omega),List.take_set_of_le (Nat.le_refl _)];rfl
   rw[e]
   cases r3S l r (i+1)with
   |none=>rfl
   |some x=>simp
  rw[p2S,r3S]
  by_cases hb:c.nm=98∨c.nm=116
  ·rw[if_pos hb]
   have h1:c.nm≠123:=by omega
   by_cases ht:c.tx=[]
   ·rw[if_pos ht]
    exact key _ (by rw[toR,if_neg h1,if_pos hb,if_pos ht]) (by omega)
   ·rw[if_neg ht]
    have hl:=hla c.tx
    cases hf:zBM c.tx la with
    |none=>
     have:toR l i c= -2:=by rw[toR,if_neg h1,if_pos hb,if_neg ht,hl.1 hf];rfl
     rw[if_pos this];rfl
    |some k=>
     obtain⟨h2,h3⟩:=hl.2 k hf
     exact key k (by rw[toR,if_neg h1,if_pos hb,if_neg ht,h2,if_neg (by omega)];omega) (by omega)
  ·rw[if_neg hb]
   have e:to.set i (toR l i c)=to:=by
    have:toR l i c=(if c.nm=123 then zAW (l.drop i) i 0+1 else -1):=by rw[toR,if_neg hb]
    rw[this]
    refine List.ext_getElem? fun j=>?_
    by_cases e:i=j
    ·subst e;rw[List.getElem?_set_self (by omega),hcur]
    ·rw[List.getElem?_set_ne e]
   have:=key _ rfl (by
    rw[toR,if_neg hb]
    have:=zFH (l.drop i) i 0
    split<;>omega)
   rw[e]at this
   exact this
theorem zJE (l:List Rq):zCR l=zFn l:=by
 have h:=zKl l (RpI.nil l.length) (by simp)
 rw[zCR,zFn]
 rw[List.nil_append,List.length_nil]at h
 cases hp:p1S l 0 ⟨[],[],List.replicate l.length 0⟩with
 |none=>
  rw[hp]at h
  simp only at h ⊢
  rw[h];rfl
 |some s=>
  rw[hp]at h
  simp only at h ⊢
  obtain⟨h1,h2⟩:=h
  rw[h1,Bool.true_and]
  cases ho:s.op with
  |nil=>
   have hr2:r2S l l 0=true:=(zH7 l l 0 rfl).2 fun j c _ hc h3=>(h2.cl j c hc h3 (by rw[ho];simp)).1
   rw[if_pos rfl,if_pos hr2,zKj l h2.la l 0 rfl s.to h2.ln (fun j c _ hc=>by
    split
    ·rename_i h3;exact(h2.cl j c hc h3 (by rw[ho];simp)).2
    ·rename_i h3;exact h2.no j c hc h3)]
   simp
  |cons k op=>
   have hk:=h2.op 0 k (by rw[ho];rfl)
   rw[if_neg (by simp),if_neg]
   intro hr2
   have hlt:=hk.lt
   have:=(zH7 l l 0 rfl).1 hr2 k l[k] (Nat.zero_le _) (List.getElem?_eq_getElem hlt) (hk.nm _ (List.getElem?_eq_getElem hlt))
   rw[hk.cl]at this
   omega
end
end Go.Proofs.YtfcemodgopdkkaaGreatDoor
