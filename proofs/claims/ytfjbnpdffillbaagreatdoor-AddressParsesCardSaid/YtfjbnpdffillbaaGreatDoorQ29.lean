/- Parts: Mir. -/
import Derived.Test.YtfjbnpdffillbaaGreatDoorQ0
import Derived.OrdersIn
import Derived.RangeFuncNested
import Derived.RangeFuncCalls
namespace Go.Proofs.YtfjbnpdffillbaaGreatDoor
open Go.RowKit
structure zMp (F:Fence):Prop where
 fn: ∀f,F.fn f
 dep:F.depth=none
 calls: ∀ {n:Nat} {P:Program} {f:FuncId} {args:Array Value} {w:World} {R:Ending→World→Prop},Calls P f args w R→CallsIn F n P f args w R
 rows: ∀ {n:Nat} {P:Program} {r:String} {args:Array Value} {w:World} {R:Value→World→Prop},Rows P r args w R→RowsIn F n P r args w R
theorem zPb:zMp Fence.wide:=
 ⟨fun _=>trivial,rfl,fun h=>callsIn_wide.2 h,fun h c cs _=>let ⟨v,w',r,s⟩:=h c cs;⟨v,w',r,stepsIn_wide.2 s⟩⟩
theorem zGg (l:Nat):zMp (Fence.wide.inRound l):=
 ⟨fun _=>trivial,rfl,fun h=>CallsIn.inRound l (callsIn_wide.2 h),fun h c cs _=>let ⟨v,w',r,s⟩:=h c cs;⟨v,w',r,stepsIn_wide.2 s⟩⟩
def zJw (l:List Oper):Bool:=l.all fun o=>match o.op with| .defer _=>false|_=>true
theorem zLB {l:List Oper} (h:zJw l=true) {o:Oper} (ho:o∈l) (c:Call):o.op≠ .defer c:=by
 have:=List.all_eq_true.1 h o ho
 intro e
 rw[e]at this
 cases this
section
variable {F:Fence} {n:Nat} {P:Program} {ops:Array Oper} {Q:Exit→Act→World→Prop}
theorem zKd (hF:zMp F) {o:Oper} (hd: ∀c,o.op≠ .defer c) {a:Act} {w:World} {K K':Act→World→Prop} (hK: ∀a w,K a w→K' a w) (h:o.wp P a w K Q):o.wpIn F n P a w K' Q:=by
 refine⟨fun f _=>hF.fn f,?_⟩
 rw[Oper.semAt_eq _ _ _ hd]
 unfold Oper.wp at h
 generalize (execOp a.eval o).run P w=r at h ⊢
 cases r with
 |halt x w'=>cases x<;>first|exact h|exact h.elim
 |ok x w'=>
  cases x with
  |value v=>exact hK _ _ h
  |skip=>exact hK _ _ h
  |defer d=>exact hK _ _ h
  |enter f args=>
   refine⟨fun e=>(by rw[hF.dep]at e;cases e),hF.calls (h.mono ?_)⟩
   intro e w2 he
   cases e with
   |returned v=>exact hK _ _ he
   |panicked ch=>exact he
   |outgrown=>exact he
  |row r args=>exact⟨fun e=>(by rw[hF.dep]at e;cases e),hF.rows (h.mono fun v w2 hv=>hK _ _ hv)⟩
  |_=>exact h.elim
theorem zKe (hF:zMp F) (hd:zJw ops.toList=true) (hQ: ∀a w,¬Q .outgrown a w) (md:Region.Mode): ∀(fuel:Nat) (listed:Array Bool) (a:Act) (w:World),wpAny P md ops Q fuel listed a w→wpAnyIn F n P md ops Q fuel listed a w:=by
 intro fuel
 induction fuel with
 |zero=>exact fun _ _ _ h=>h
 |succ fuel ih=>
  intro listed a w ⟨h0,h1⟩
  refine⟨h0,fun i hi=>?_⟩
  have h2:=h1 i hi
  unfold Go.wpOp at h2
  unfold Go.wpOpIn
  cases ho:ops[i]? with
  |none=>rw[ho]at h2;exact ih _ _ _ h2
  |some o=>
   rw[ho]at h2
   simp only at h2 ⊢
   have hmem:o∈ops.toList:=by
    have:=zPn.1 ho
    obtain⟨hlt,e⟩:=this
    rw[←e]
    exact Array.getElem_mem_toList hlt
   split
   ·rename_i hw
    rw[if_pos hw]at h2
    rcases h2 with h2|⟨_,a0,w0,h3⟩
    ·exact zKd hF (zLB hd hmem) (fun a w h=>ih _ _ _ h) h2
    ·exact absurd h3 (hQ a0 w0)
   ·rename_i hw
    rw[if_neg hw]at h2
    exact⟨fun f _=>hF.fn f,ih _ _ _ h2⟩
end
theorem zDg {X:Option Nat} {F:Fence} (hF:zMp F) {m:Nat} {P:Program} {Q:Exit→Act→World→Prop} {id:Nat} {a:Act} {w:World} {l:List Oper} (hd:zJw l=true) (hO: ∀a w,¬Q .outgrown a w) (n:Nat) (segs:List (List Nat × Nat)) (qs:List Nat) (hm:P.follows .mixedOrders=true)
  (hB:zOB .any l.toArray n segs qs=true) (hlen:zBL n l.toArray.size qs segs=l.toArray.size)
  (hQ: ∀c (a:Act) (d:Tmp) v w,Q (.panic c) { a with tmps:=a.tmps.setIfInBounds d v } w→Q (.panic c) a w)
  (h:zAI X P l.toArray Q (l.drop n) (zA9 l segs) (zBD l qs) a w.drew):(Code.region id l.toArray true).wpIn F m P Q a w:=by
 simp only[zOB,Bool.and_eq_true,decide_eq_true_eq]at hB
 obtain⟨⟨⟨hsel,hn⟩,hw⟩,hs⟩:=hB
 refine wpIn_region_any hm (zKe hF hd hO .any _ _ _ _ (zBv (X:=X) (n:=n) _ _ _ _ ?_))
 have inv0:HeadInv .any l.toArray n (Array.replicate l.toArray.size false):=
  ⟨by simp,fun j oj _ hl=>(by rw[getD_replicate_false]at hl;cases hl),fun t _ ht=>getD_in (by simpa using ht) (getD_replicate_false _ _)⟩
 have:=zB2 (P:=P) (Q:=Q) hsel hw (fun c a d v w h=>by cases d with|none=>exact h|some d=>exact hQ c a d v w h) (tail:=l.drop n) (fun j=>by simp[List.getElem?_drop]) (by simp) qs segs _ a w.drew inv0 hs (by obtain⟨h1,h2⟩:=zDc l segs _ hs;rw[h1,h2]at h;exact h)
 rw[hlen]at this
 exact this
end Go.Proofs.YtfjbnpdffillbaaGreatDoor
