/- Parts: Own Ra Wd We Wf Wg Wh. -/
import Derived.Test.YtmaagpbjahjmhaaGreatDoorQ4
import Derived.Test.YtmaagpbjahjmhaaGreatDoorQ1
import Derived.Maps.AppendAt
import Derived.Laws.AppendOwnNone
import Derived.Laws.BytesArg
set_option maxHeartbeats 6400000
set_option maxRecDepth 100000
namespace Go.Proofs.YtmaagpbjahjmhaaGreatDoor
section
open Go.RowKit
structure ElT (P:Program) (t e:TypeId) (size bytes:Nat) (z:Value):Prop where
 ht:P.underlying t=some (.slice e)
 hi:(P.info? e).map (fun i=>(i.zero,i.size,i.bytes))=some (some z,size,bytes)
 hzs:z.cells.size=size
 hsz:0<size
def Src (w:World) (v:Value) (m:Nat) (news:List Value):Prop:=
 (v= .slice none 0 0∧m=0∧news=[])∨ ∃a c,v= .slice (some a) m c∧ ∀j u,news[j]?=some u→w.cell? (a.add j)=some u
theorem Src.nil (w:World):Src w (.slice none 0 0) 0 []:= .inl ⟨rfl,rfl,rfl⟩
theorem Src.own {w:World} {base e size n:Nat} {v:Value} {xs:List Value} (h:w.ownsRow base e size v n xs):Src w v n xs:=by
 rcases h.2 with ⟨rfl,rfl⟩|⟨g,cap,cur,rfl,hb,hg,rest⟩
 ·refine .inl ⟨rfl,rfl,zRP (by simpa using h.1)⟩
 ·exact .inr ⟨_,_,rfl,h.cells rfl⟩
theorem Src.new (w:World) (cs:List Value) (e m c:Nat):Src (w.alloc (.cells cs.toArray e)) (.slice (some ⟨w.heap.size,0,none⟩) m c) m cs:=by
 refine .inr ⟨_,_,rfl,fun j u hu=>?_⟩
 have hadd:(⟨w.heap.size,0,none⟩:Addr).add j=⟨w.heap.size,j,none⟩:=by unfold Addr.add;split<;>simp_all
 rw[hadd,zQ6 _ _ j _ e (0,0) (zQ4 w _)]
 simpa using hu
theorem zAe {P:Program} {w:World} {ops:Array Oper} {rest:List Oper} {o:Oper} {a:Act} {Q:Exit→Act→World→Prop} {t e:TypeId} {size bytes:Nat} {z:Value} (E:ElT P t e size bytes z)
  (hgd:o.guard=none) (s x:Operand) (ho:o.op= .call { callee:= .builtin .append,args:= #[s,x],argTypes:= #[t,t] })
  (base:Nat) {v sv:Value} {n m:Nat} {xs news:List Value} (hs:a.eval s=v) (hown:w.ownsRow base e size v n xs) (hx:a.eval x=sv) (hsrc:Src w sv m news)
  (hl:news.length=m*size) (h1: ∀u∈news,u.oneCell'=true) (h63:n+m≤maxLen) (hbytes:(n+m)*bytes≤140737488355328) (hbase:base≤w.heap.size)
  (h: ∀v' w',w'.ownsRow base e size v' (n+m) (xs++news)→w.grownBy w' v.ownBlock→(v'.ownBlock=v.ownBlock∨v'.ownBlock=some w.heap.size)→wpList P ops Q rest (a.put o.dst v') w'):
  wpList P ops Q (o::rest) a w:=by
 obtain⟨i,hi,hz0,hz1,hz2⟩:=info_parts E.hi
 rcases hsrc with ⟨rfl,rfl,rfl⟩|⟨ad,c,rfl,hc⟩
 ·refine wpList_append_own_none hgd s x t ho base e i size E.ht hi v n xs hs hown hx ?_
  have:=h v w (by simpa using hown) (World.grownBy.refl w _) (.inl rfl)
  exact this
 ·exact wpList_append_own_at w hgd s x t ho base e i z size bytes E.ht hi hz0 hz1 hz2 E.hzs E.hsz v n xs hs hown ad m c news hx hl hc h1 h63 hbytes hbase (fun v' w' h2 h3 _ h5=>h v' w' h2 h3 h5)
theorem zNK:ElT Tryz.prog 22 5 1 1 (.int .u8 0):=⟨Tryz.underlying22,by kernel_rfl,rfl,by decide⟩
def u8s (l:List Nat):List Value:=l.map fun b=> .int .u8 (b:Nat)
theorem zBZ (l:List Nat):(u8s l).length=l.length:=by simp[u8s]
theorem zLt (l:List Nat): ∀u∈u8s l,u.oneCell'=true:=by
 intro u hu
 simp only[u8s,List.mem_map]at hu
 obtain⟨b,_,rfl⟩:=hu
 rfl
theorem zOI {w:World} {base n:Nat} {v:Value} {l:List Nat} (h:w.ownsRow base 5 1 v n (u8s l)):
  (convert 22 9 v).run Tryz.prog w= .ok (.string (strOfNums (l.map fun b:Nat=>(b:Int)))) w:=by
 rcases h.2 with ⟨rfl,rfl⟩|⟨g,cap,cur,rfl,hb,hg,hnc,hcm,hcs,htake⟩
 ·have hl:l=[]:=zRP (by have:=h.1;simpa [zBZ]using this)
  subst hl
  exact run_convert_bytes_nil w _ _ Tryz.underlying22 Tryz.underlying5 _ _ _ Tryz.underlying9
 ·have hln:l.length=n:=by have:=h.1;simpa [zBZ]using this
  refine run_convert_bytes_arg w _ _ Tryz.underlying22 Tryz.underlying5 g 0 n cap _ (by simpa using hln) (fun i hi=>?_) _ Tryz.underlying9
  have hadd:(⟨g,0,none⟩:Addr).add i=⟨g,0+i,none⟩:=by unfold Addr.add;split<;>simp_all
  rw[←hadd]
  refine h.cells (g:=g) rfl i _ ?_
  simp[u8s,List.getD_eq_getElem?_getD,show i<l.length by omega]
theorem zFR (l:List Nat) (h: ∀b∈l,b<256):zAg (strOfNums (l.map fun b:Nat=>(b:Int)))=l:=by
 simp only[zAg,strOfNums_data,List.map_map]
 conv=>rhs;rw[←List.map_id l]
 refine List.map_congr_left fun b hb=>?_
 have:=h b hb
 simp[Function.comp]
 omega
end
section
open Go.RowKit
def zAT (x:Nd):Array Value:= #[.int .i8 x.op,.int .u64 x.set.w0.toNat,.int .u64 x.set.w1.toNat,.int .u64 x.set.w2.toNat,.int .u64 x.set.w3.toNat,.int .i64 x.n,.int .i64 x.min,.int .i64 x.max,.int .i64 x.kids]
abbrev ndV (x:Nd):Value:= .agg #[.int .i8 x.op,.int .u64 x.set.w0.toNat,.int .u64 x.set.w1.toNat,.int .u64 x.set.w2.toNat,.int .u64 x.set.w3.toNat,.int .i64 x.n,.int .i64 x.min,.int .i64 x.max,.int .i64 x.kids]
def zG1 (w:World) (B:Nat):Prop:= ∃cs:Array Value,cs.size=9∧w.heap[B]?=some (.cells cs 101 (0,0))
theorem zG1.lt {w:World} {B:Nat} (h:zG1 w B):B<w.heap.size:=by
 obtain⟨_,_,h⟩:=h
 exact(zQz.1 h).1
def zKw (w:World) (B:Nat) (s0 s1 s2 s3 s4 s5 s6 s7 s8:Int):World:=(((((((((w).setCell ⟨B,0,none⟩ (.int .i8 s0)).setCell ⟨B,1,none⟩ (.int .u64 s1)).setCell ⟨B,2,none⟩ (.int .u64 s2)).setCell ⟨B,3,none⟩ (.int .u64 s3)).setCell ⟨B,4,none⟩ (.int .u64 s4)).setCell ⟨B,5,none⟩ (.int .i64 s5)).setCell ⟨B,6,none⟩ (.int .i64 s6)).setCell ⟨B,7,none⟩ (.int .i64 s7)).setCell ⟨B,8,none⟩ (.int .i64 s8)
theorem zDA (w:World) (B:Nat) (s0 s1 s2 s3 s4 s5 s6 s7 s8:Int):(((((((((w).setCell ⟨B,0,none⟩ (.int .i8 s0)).setCell ⟨B,1,none⟩ (.int .u64 s1)).setCell ⟨B,2,none⟩ (.int .u64 s2)).setCell ⟨B,3,none⟩ (.int .u64 s3)).setCell ⟨B,4,none⟩ (.int .u64 s4)).setCell ⟨B,5,none⟩ (.int .i64 s5)).setCell ⟨B,6,none⟩ (.int .i64 s6)).setCell ⟨B,7,none⟩ (.int .i64 s7)).setCell ⟨B,8,none⟩ (.int .i64 s8)=zKw w B s0 s1 s2 s3 s4 s5 s6 s7 s8:=rfl
theorem zKB {w:World} {B:Nat} (h:zG1 w B) (s0 s1 s2 s3 s4 s5 s6 s7 s8:Int):(zKw w B s0 s1 s2 s3 s4 s5 s6 s7 s8).heap[B]?=some (.cells #[.int .i8 s0,.int .u64 s1,.int .u64 s2,.int .u64 s3,.int .u64 s4,.int .i64 s5,.int .i64 s6,.int .i64 s7,.int .i64 s8] 101 (0,0)):=by
 obtain⟨cs,hs,h⟩:=h
 obtain⟨a0,a1,a2,a3,a4,a5,a6,a7,a8,rfl⟩: ∃a0 a1 a2 a3 a4 a5 a6 a7 a8,cs= #[a0,a1,a2,a3,a4,a5,a6,a7,a8]:=by
  obtain⟨l⟩:=cs
  match l,hs with
  |[a0,a1,a2,a3,a4,a5,a6,a7,a8],_=>exact⟨a0,a1,a2,a3,a4,a5,a6,a7,a8,rfl⟩
 simp[zKw,World.setCell,Array.getElem?_modify,h]
theorem zBV {w:World} {B k:Nat} (h:k≤B) (s0 s1 s2 s3 s4 s5 s6 s7 s8:Int):Below k w (zKw w B s0 s1 s2 s3 s4 s5 s6 s7 s8):=((((((((((zQs k w).setCell (p:=⟨B,0,none⟩) h _).setCell (p:=⟨B,1,none⟩) h _).setCell (p:=⟨B,2,none⟩) h _).setCell (p:=⟨B,3,none⟩) h _).setCell (p:=⟨B,4,none⟩) h _).setCell (p:=⟨B,5,none⟩) h _).setCell (p:=⟨B,6,none⟩) h _).setCell (p:=⟨B,7,none⟩) h _).setCell (p:=⟨B,8,none⟩) h _)
theorem zIe {w1:World} {B:Nat} {s0 s1 s2 s3 s4 s5 s6 s7 s8:Int} (h1:w1.heap[B]?=some (.cells #[.int .i8 s0,.int .u64 s1,.int .u64 s2,.int .u64 s3,.int .u64 s4,.int .i64 s5,.int .i64 s6,.int .i64 s7,.int .i64 s8] 101 (0,0))):
  (loadVar 101 ⟨B,0,none⟩).run Tryz.prog w1= .ok (.agg #[.int .i8 s0,.int .u64 s1,.int .u64 s2,.int .u64 s3,.int .u64 s4,.int .i64 s5,.int .i64 s6,.int .i64 s7,.int .i64 s8]) w1:=by
 have hc: ∀j,w1.cell? ⟨B,j,none⟩=(#[.int .i8 s0,.int .u64 s1,.int .u64 s2,.int .u64 s3,.int .u64 s4,.int .i64 s5,.int .i64 s6,.int .i64 s7,.int .i64 s8]:Array Value)[j]?:=fun j=>zQ6 w1 B j _ _ (0,0) h1
 have c0:=hc 0
 have c1:=hc 1
 have c2:=hc 2
 have c3:=hc 3
 have c4:=hc 4
 have c5:=hc 5
 have c6:=hc 6
 have c7:=hc 7
 have c8:=hc 8
 simp only[List.getElem?_toArray,List.getElem?_cons_zero,List.getElem?_cons_succ]at c0 c1 c2 c3 c4 c5 c6 c7 c8
 simp[go_sem,c0,c1,c2,c3,c4,c5,c6,c7,c8]
theorem zB8 {fn:Func} {p:Tmp} {ty:TypeId} (h:fn.results= #[.cell p ty]) (tmps:Array Value) (P:Program) (w:World):
  (results fn tmps).run P w=((asAddr (tmps.getD p undef)).run P w).andThen fun a w₁=>(loadVar ty a).run P w₁:=by
 simp only[results,h]
 simp[Sem.run_bind,Result.andThen]
theorem zPh {fn:Func} {p:Tmp} (h:fn.results= #[.cell p 101]) {a:Act} {w W w0:World} {B:Nat} {s0 s1 s2 s3 s4 s5 s6 s7 s8:Int} {x:Nd}
  (ha:a.tmps.getD p undef= .pointer (some ⟨B,0,none⟩)) (hd:a.defers=[]) (his:zG1 w B) (hW:Below (B+1) (zKw w B s0 s1 s2 s3 s4 s5 s6 s7 s8) W)
  (hx:ndV x= .agg #[.int .i8 s0,.int .u64 s1,.int .u64 s2,.int .u64 s3,.int .u64 s4,.int .i64 s5,.int .i64 s6,.int .i64 s7,.int .i64 s8]) (hb:Below w0.heap.size w0 w) (hB:w0.heap.size≤B):
  bodyPost Tryz.prog fn (fun e w'=>e= .returned (ndV x)∧Below w0.heap.size w0 w') .ret a W:=by
 refine zRQ (v:=ndV x) ?_ hd ⟨rfl,(hb.trans (zBV hB _ _ _ _ _ _ _ _ _)).trans (hW.mono (by omega))⟩
 rw[zB8 h,ha,hx]
 simp[asAddr,zIe ((hW.block B (Nat.lt_succ_self _)).trans (zKB his s0 s1 s2 s3 s4 s5 s6 s7 s8)),Result.andThen]
def zGV (w:World):World:=w.alloc (.cells #[.int .i8 0,.int .u64 0,.int .u64 0,.int .u64 0,.int .u64 0,.int .i64 0,.int .i64 0,.int .i64 0,.int .i64 0] 101)
theorem zKM (w:World):zG1 (zGV w) w.heap.size:=⟨_,rfl,zQ4 w _⟩
theorem zC7 (w:World):(zGV w).heap.size=w.heap.size+1:=by simp[zGV]
theorem zDK (w:World):Below w.heap.size w (zGV w):=(zQs _ _).alloc (zQt _) _
theorem zG6 (w:World):w.alloc (.cells #[.int .i8 0,.int .u64 0,.int .u64 0,.int .u64 0,.int .u64 0,.int .i64 0,.int .i64 0,.int .i64 0,.int .i64 0] 101)=zGV w:=rfl
theorem zG1.below {w w':World} {B:Nat} (h:zG1 w B) (hb:Below w.heap.size w w'):zG1 w' B:=by
 obtain⟨cs,hs,hc⟩:=h
 exact⟨cs,hs,(hb.block B (zG1.lt ⟨cs,hs,hc⟩)).trans hc⟩
theorem zG1.cells {w:World} {B:Nat} (h:zG1 w B): ∃a0 a1 a2 a3 a4 a5 a6 a7 a8,w.cell? ⟨B,0,none⟩=some a0∧w.cell? ⟨B,1,none⟩=some a1∧w.cell? ⟨B,2,none⟩=some a2∧w.cell? ⟨B,3,none⟩=some a3∧w.cell? ⟨B,4,none⟩=some a4∧w.cell? ⟨B,5,none⟩=some a5∧w.cell? ⟨B,6,none⟩=some a6∧w.cell? ⟨B,7,none⟩=some a7∧w.cell? ⟨B,8,none⟩=some a8∧(∀o,w.frozen? ⟨B,o,none⟩=false):=by
 obtain⟨cs,hs,h⟩:=h
 obtain⟨a0,a1,a2,a3,a4,a5,a6,a7,a8,rfl⟩: ∃a0 a1 a2 a3 a4 a5 a6 a7 a8,cs= #[a0,a1,a2,a3,a4,a5,a6,a7,a8]:=by
  obtain⟨l⟩:=cs
  match l,hs with
  |[a0,a1,a2,a3,a4,a5,a6,a7,a8],_=>exact⟨a0,a1,a2,a3,a4,a5,a6,a7,a8,rfl⟩
 have hc: ∀j,w.cell? ⟨B,j,none⟩=(#[a0,a1,a2,a3,a4,a5,a6,a7,a8]:Array Value)[j]?:=fun j=>zQ6 w B j _ _ (0,0) h
 exact⟨a0,a1,a2,a3,a4,a5,a6,a7,a8,hc 0,hc 1,hc 2,hc 3,hc 4,hc 5,hc 6,hc 7,hc 8,zAF h⟩
theorem zEG (b:Nat) (hb:b<256) (w:World):
  Calls Tryz.prog 231 #[.int .u8 (b:Nat)] w fun e w'=>e= .returned (ndV (zEo b))∧Below w.heap.size w w':=by
 have hof:=zEd [b] #[.int .u8 (b:Nat)] rfl (by simpa using hb) (by simp)
 unfold zEo
 generalize Cls.of [b]=c at hof ⊢
 go_enter Tryz.func231,Tryz.ntmps231
 go_wp2_with fail
 rw[zG6,←zC7]
 refine(hof (zGV w)).mono ?_
 intro e w1 h
 obtain⟨he,hb1⟩:=h
 subst he
 have hb2:Below (zGV w).heap.size (zGV w) w1:=Below.trans ((zQs _ _).alloc (zQt _) _) (hb1.mono (by simp))
 have hbe:Below w.heap.size w w1:=(zDK w).trans (hb2.mono (by rw[zC7];omega))
 have his:zG1 w1 w.heap.size:=(zKM w).below hb2
 obtain⟨a0,a1,a2,a3,a4,a5,a6,a7,a8,c0,c1,c2,c3,c4,c5,c6,c7,c8,f0⟩:=his.cells
 clear hof hb1 hb2
 obtain⟨x0,x1,x2,x3⟩:=c
 have HI:=zQr his
 have HB:=zQr hbe
 clear his hbe
 go_wp2_with fail
 rw[zDA]
 exact zPh Tryz.results231 rfl rfl HI.out (zQs _ _) rfl HB.out (zQt _)
end
section
open Go.RowKit
structure zI4 (w:World) (mb mo:Nat) (L:List Mk):Prop where
 lt:mb<w.heap.size
 len:L.length≤4096
 b: ∀i,i<L.length→w.cell? ⟨mb,mo+i*2,none⟩=some (.int .u8 ((zAI L i).b:Int))
 p: ∀i,i<L.length→w.cell? ⟨mb,mo+i*2+1,none⟩=some (.bool (zAI L i).p)
 u: ∀i,i<L.length→(zAI L i).b<256
theorem zI4.below {w w':World} {mb mo:Nat} {L:List Mk} (h:zI4 w mb mo L) (hb:Below w.heap.size w w'):zI4 w' mb mo L:=
 ⟨zQu h.lt hb.size,h.len,fun i hi=>(hb.cell (p:=⟨mb,mo+i*2,none⟩) h.lt).trans (h.b i hi),fun i hi=>(hb.cell (p:=⟨mb,mo+i*2+1,none⟩) h.lt).trans (h.p i hi),h.u⟩
structure Br (w:World) (rb mb mo cap:Nat) (L:List Mk) (at0:Nat):Prop where
 lt:rb<w.heap.size
 c0:w.cell? ⟨rb,0,none⟩=some (.slice (some ⟨mb,mo,none⟩) L.length cap)
 c1:w.cell? ⟨rb,1,none⟩=some (.int .i64 at0)
 m:zI4 w mb mo L
 h0:at0≤4096
theorem Br.below {w w':World} {rb mb mo cap:Nat} {L:List Mk} {at0:Nat} (h:Br w rb mb mo cap L at0) (hb:Below w.heap.size w w'):Br w' rb mb mo cap L at0:=
 ⟨zQu h.lt hb.size,(hb.cell (p:=⟨rb,0,none⟩) h.lt).trans h.c0,(hb.cell (p:=⟨rb,1,none⟩) h.lt).trans h.c1,h.m.below hb,h.h0⟩
theorem zAN {rb mb mo cap:Nat} {L:List Mk} {at0:Nat} {w:World} (h:Br w rb mb mo cap L at0) {i c:Int} (n k:Nat) (hi:i=n) (hc:c=k):
  Calls Tryz.prog 245 #[.pointer (some ⟨rb,0,none⟩),.int .i64 i,.int .u8 c] w fun e w'=>e= .returned (.bool (signAt L n k))∧w=w':=by
 subst hi
 subst hc
 obtain⟨hrb,h0,_,hm,_⟩:=h
 have hL:=hm.len
 by_cases hlt:n<L.length
 ·have hb:=hm.b n hlt
  have hp:=hm.p n hlt
  have hs:Hid (signAt L n k=((zAI L n).b==k&& !(zAI L n).p)):=by simp[Hid,signAt,hlt]
  clear hm
  go_enter Tryz.func245,Tryz.ntmps245
  go_wp2_with fail
  all_goals
   go_ret
   refine⟨zAH ?_,rfl⟩
   rw[hs.out]
   by_cases e:(zAI L n).b=k<;>cases hp':(zAI L n).p<;>simp_all<;>omega
 ·have hs:Hid (signAt L n k=false):=by simp[Hid,signAt,hlt]
  clear hm
  go_enter Tryz.func245,Tryz.ntmps245
  go_wp2_with fail
  go_ret
  exact⟨zAH hs.out.symm,rfl⟩
def Flt (base:Nat) (w:World) (v:Value):Option (Nat × Nat)→Prop
 |none=>v= .pointer none
 |some (e,at_)=> ∃b,v= .pointer (some ⟨b,0,none⟩)∧base≤b∧b<w.heap.size∧w.cell? ⟨b,0,none⟩=some (.int .i64 (e:Nat))∧w.cell? ⟨b,1,none⟩=some (.int .i64 (at_:Nat))
theorem Flt.below {base:Nat} {w w':World} {v:Value} {f:Option (Nat × Nat)} (h:Flt base w v f) (hb:Below w.heap.size w w'):Flt base w' v f:=by
 cases f with
 |none=>exact h
 |some p=>
  obtain⟨b,rfl,hge,hlt,h0,h1⟩:=h
  exact⟨b,rfl,hge,zQu hlt hb.size,(hb.cell (p:=⟨b,0,none⟩) hlt).trans h0,(hb.cell (p:=⟨b,1,none⟩) hlt).trans h1⟩
theorem Flt.mono {base k:Nat} {w:World} {v:Value} {f:Option (Nat × Nat)} (h:Flt base w v f) (hk:k≤base):Flt k w v f:=by
 cases f with
 |none=>exact h
 |some p=>
  obtain⟨b,rfl,hge,rest⟩:=h
  exact⟨b,rfl,by omega,rest⟩
theorem zCx {base:Nat} {w:World} {n e at_:Nat} {t:TypeId} (h:n=w.heap.size) (hb:base≤w.heap.size):Flt base (w.alloc (.cells #[.int .i64 (e:Nat),.int .i64 (at_:Nat)] t)) (.pointer (some ⟨n,0,none⟩)) (some (e,at_)):=by
 subst h
 exact⟨w.heap.size,rfl,hb,by simp,by rw[cell_of_row _ _ 0 _ t (0,0) (heap_alloc_new w _)];rfl,by rw[cell_of_row _ _ 1 _ t (0,0) (heap_alloc_new w _)];rfl⟩
theorem zEc {rb mb mo cap:Nat} {L:List Mk} {at0:Nat} {w:World} (h:Br w rb mb mo cap L at0):
  Calls Tryz.prog 263 #[.pointer (some ⟨rb,0,none⟩)] w fun e w'=> ∃v,e= .returned v∧Flt w.heap.size w' v (some (32,at0))∧Below w.heap.size w w':=by
 obtain⟨hrb,h0,h1,hm,_⟩:=h
 clear hm
 go_enter Tryz.func263,Tryz.ntmps263
 go_wp2_with fail
 go_ret
 exact⟨_,rfl,zCx (e:=32) rfl (zQt _),(by repeat (first|exact zQs _ _|assumption|refine zRK ?_|refine zRI ?_ (by first|(simp;done)|(simp;omega)|omega) _|refine zRJ ?_ (by first|(simp;done)|(simp;omega)|omega) _))⟩
def zOp (t:Th):Array Value:= #[.int .u64 t.set.w0.toNat,.int .u64 t.set.w1.toNat,.int .u64 t.set.w2.toNat,.int .u64 t.set.w3.toNat,.int .u8 (t.b:Nat),.bool t.fin,.int .i64 (t.next:Nat)]
abbrev thV (t:Th):Value:= .agg #[.int .u64 t.set.w0.toNat,.int .u64 t.set.w1.toNat,.int .u64 t.set.w2.toNat,.int .u64 t.set.w3.toNat,.int .u8 (t.b:Nat),.bool t.fin,.int .i64 (t.next:Nat)]
def zFS (w:World) (B:Nat) (t:Th):Prop:=w.heap[B]?=some (.cells (zOp t) 291 (0,0))
theorem zFS.lt {w:World} {B:Nat} {t:Th} (h:zFS w B t):B<w.heap.size:=(zQz.1 h).1
theorem zFS.below {w w':World} {B:Nat} {t:Th} (h:zFS w B t) (hb:Below w.heap.size w w'):zFS w' B t:=(hb.block B h.lt).trans h
theorem zFS.cells {w:World} {B:Nat} {t:Th} (h:zFS w B t):
  w.cell? ⟨B,0,none⟩=some (.int .u64 t.set.w0.toNat)∧w.cell? ⟨B,1,none⟩=some (.int .u64 t.set.w1.toNat)∧w.cell? ⟨B,2,none⟩=some (.int .u64 t.set.w2.toNat)∧w.cell? ⟨B,3,none⟩=some (.int .u64 t.set.w3.toNat)∧
  w.cell? ⟨B,4,none⟩=some (.int .u8 (t.b:Nat))∧w.cell? ⟨B,5,none⟩=some (.bool t.fin)∧w.cell? ⟨B,6,none⟩=some (.int .i64 (t.next:Nat)):=by
 refine⟨?_,?_,?_,?_,?_,?_,?_⟩<;>rw[zQ6 w B _ _ _ (0,0) h]<;>rfl
def zNH (r:Th × Option (Nat × Nat)) (w:World) (e:Ending) (w':World):Prop:= ∃v,e= .returned (.tuple #[thV r.1,v])∧Flt w.heap.size w' v r.2∧Below w.heap.size w w'
theorem zIC {P:Program} {fn:Func} {p u:Tmp} {ty:TypeId} (h:fn.results= #[.cell p ty,.tmp u]) {a:Act} {w:World} {ad:Addr} {V x:Value} {R:Ending→World→Prop} (ha:a.tmps.getD p undef= .pointer (some ad))
  (hu:a.tmps.getD u undef=x) (hl:(loadVar ty ad).run P w= .ok V w) (hd:a.defers=[]) (hR:R (.returned (.tuple #[V,x])) w):bodyPost P fn R .ret a w:=by
 refine zRQ (v:= .tuple #[V,x]) ?_ hd hR
 rw[Go.results_cell_tmp h,ha,hu]
 simp[asAddr,hl,Result.andThen]
def zJn (w:World) (B:Nat):Prop:= ∃a0 a1 a2 a3 a4 a5 a6:Value,w.heap[B]?=some (.cells #[a0,a1,a2,a3,a4,a5,a6] 291 (0,0))
theorem zFS.is {w:World} {B:Nat} {t:Th} (h:zFS w B t):zJn w B:=⟨_,_,_,_,_,_,_,h⟩
theorem zJn.lt {w:World} {B:Nat} (h:zJn w B):B<w.heap.size:=by
 obtain⟨_,_,_,_,_,_,_,h⟩:=h
 exact(zQz.1 h).1
theorem zJn.below {w w':World} {B:Nat} (h:zJn w B) (hb:Below w.heap.size w w'):zJn w' B:=by
 have hlt:=h.lt
 obtain⟨a0,a1,a2,a3,a4,a5,a6,h⟩:=h
 exact⟨a0,a1,a2,a3,a4,a5,a6,(hb.block B hlt).trans h⟩
@[go_sem ↓ high] theorem zPU (w:World) (o:Obj) (B:Nat) (h:zJn w B):zJn (w.alloc o) B=True:=eq_true (h.below ((zQs _ _).alloc (zQt _) o))
@[go_sem ↓ high] theorem zPs (w:World) (B:Nat) (h:zJn w B):zJn w.drew B=True:=eq_true h
def zGQ (w:World) (B:Nat) (s0 s1 s2 s3 b:Int) (e:Bool) (n:Int):World:=
 ((((((w.setCell ⟨B,0,none⟩ (.int .u64 s0)).setCell ⟨B,1,none⟩ (.int .u64 s1)).setCell ⟨B,2,none⟩ (.int .u64 s2)).setCell ⟨B,3,none⟩ (.int .u64 s3)).setCell
  ⟨B,4,none⟩ (.int .u8 b)).setCell ⟨B,5,none⟩ (.bool e)).setCell ⟨B,6,none⟩ (.int .i64 n)
theorem zAO (w:World) (B:Nat) (s0 s1 s2 s3 b:Int) (e:Bool) (n:Int):
  ((((((w.setCell ⟨B,0,none⟩ (.int .u64 s0)).setCell ⟨B,1,none⟩ (.int .u64 s1)).setCell ⟨B,2,none⟩ (.int .u64 s2)).setCell ⟨B,3,none⟩ (.int .u64 s3)).setCell
   ⟨B,4,none⟩ (.int .u8 b)).setCell ⟨B,5,none⟩ (.bool e)).setCell ⟨B,6,none⟩ (.int .i64 n)=zGQ w B s0 s1 s2 s3 b e n:=rfl
theorem zNc {w:World} {B:Nat} (h:zJn w B) (s0 s1 s2 s3 b:Int) (e:Bool) (n:Int):
  (zGQ w B s0 s1 s2 s3 b e n).heap[B]?=some (.cells #[.int .u64 s0,.int .u64 s1,.int .u64 s2,.int .u64 s3,.int .u8 b,.bool e,.int .i64 n] 291 (0,0)):=by
 obtain⟨a0,a1,a2,a3,a4,a5,a6,h⟩:=h
 simp[zGQ,World.setCell,Array.getElem?_modify,h]
theorem zJD {w:World} {B k:Nat} (h:k≤B) (s0 s1 s2 s3 b:Int) (e:Bool) (n:Int):Below k w (zGQ w B s0 s1 s2 s3 b e n):=
 (((((((zQs k w).setCell (p:=⟨B,0,none⟩) h _).setCell (p:=⟨B,1,none⟩) h _).setCell (p:=⟨B,2,none⟩) h _).setCell (p:=⟨B,3,none⟩) h _).setCell (p:=⟨B,4,none⟩) h _).setCell (p:=⟨B,5,none⟩) h _).setCell (p:=⟨B,6,none⟩) h _
theorem zFu {w:World} {B k:Nat} (h:k≠B) (s0 s1 s2 s3 b:Int) (e:Bool) (n:Int):(zGQ w B s0 s1 s2 s3 b e n).heap[k]?=w.heap[k]?:=by
 unfold zGQ
 rw[zQ1 _ _ _ _ h,zQ1 _ _ _ _ h,zQ1 _ _ _ _ h,zQ1 _ _ _ _ h,zQ1 _ _ _ _ h,zQ1 _ _ _ _ h,zQ1 _ _ _ _ h]
theorem zAP {w:World} {B:Nat} (s0 s1 s2 s3 b:Int) (e:Bool) (n:Int):(zGQ w B s0 s1 s2 s3 b e n).heap.size=w.heap.size:=by simp[zGQ]
theorem zMX {w1:World} {B:Nat} {s0 s1 s2 s3 b:Int} {e:Bool} {n:Int} (h1:w1.heap[B]?=some (.cells #[.int .u64 s0,.int .u64 s1,.int .u64 s2,.int .u64 s3,.int .u8 b,.bool e,.int .i64 n] 291 (0,0))):
  (loadVar 291 ⟨B,0,none⟩).run Tryz.prog w1= .ok (.agg #[.int .u64 s0,.int .u64 s1,.int .u64 s2,.int .u64 s3,.int .u8 b,.bool e,.int .i64 n]) w1:=by
 have hc: ∀j,w1.cell? ⟨B,j,none⟩=(#[.int .u64 s0,.int .u64 s1,.int .u64 s2,.int .u64 s3,.int .u8 b,.bool e,.int .i64 n]:Array Value)[j]?:=fun j=>zQ6 w1 B j _ _ (0,0) h1
 have c0:=hc 0
 have c1:=hc 1
 have c2:=hc 2
 have c3:=hc 3
 have c4:=hc 4
 have c5:=hc 5
 have c6:=hc 6
 simp only[List.getElem?_toArray,List.getElem?_cons_zero,List.getElem?_cons_succ]at c0 c1 c2 c3 c4 c5 c6
 simp[go_sem,c0,c1,c2,c3,c4,c5,c6]
theorem zAq {fn:Func} {p u:Tmp} (h:fn.results= #[.cell p 291,.tmp u]) {a:Act} {w W w0:World} {B:Nat} {s0 s1 s2 s3 b:Int} {e:Bool} {n:Int} {v:Value} {r:Th × Option (Nat × Nat)}
  (ha:a.tmps.getD p undef= .pointer (some ⟨B,0,none⟩)) (hu:a.tmps.getD u undef=v) (hd:a.defers=[]) (his:zJn w B) (hW:Below (B+1) (zGQ w B s0 s1 s2 s3 b e n) W)
  (hv:thV r.1= .agg #[.int .u64 s0,.int .u64 s1,.int .u64 s2,.int .u64 s3,.int .u8 b,.bool e,.int .i64 n]) (hf:Flt w0.heap.size W v r.2) (hb:Below w0.heap.size w0 w) (hB:w0.heap.size≤B):
  bodyPost Tryz.prog fn (zNH r w0) .ret a W:=by
 refine zIC h ha hu (zMX ((hW.block B (Nat.lt_succ_self _)).trans (zNc his s0 s1 s2 s3 b e n))) hd ⟨v,?_,hf,(hb.trans (zJD hB _ _ _ _ _ _ _)).trans (hW.mono (by omega))⟩
 rw[hv]
theorem Flt.set {base:Nat} {w:World} {v:Value} {f:Option (Nat × Nat)} {B:Nat} (h:Flt base w v f) (hB:B<base) (s0 s1 s2 s3 b:Int) (e:Bool) (n:Int):Flt base (zGQ w B s0 s1 s2 s3 b e n) v f:=by
 cases f with
 |none=>simp only[Flt]at h ⊢;exact h
 |some p=>
  obtain⟨c,rfl,hge,hlt,h0,h1⟩:=h
  have hne:c≠B:=by omega
  refine⟨c,rfl,hge,by rw[zAP];exact hlt,?_,?_⟩
  ·exact(zQv (a:=⟨c,0,none⟩) (zFu (w:=w) hne _ _ _ _ _ _ _)).trans h0
  ·exact(zQv (a:=⟨c,1,none⟩) (zFu (w:=w) hne _ _ _ _ _ _ _)).trans h1
theorem zMU {L:List Mk} {at0 b0 n i:Nat} {s:List Nat} (h1:signAt L i 58=true) (h2:signAt L (i+1) 93=true):
  zCz L at0 b0 (n+1) i s=match zA7 s with|none=>(Th.zero,some (31,b0))|some c=>(⟨c,0,false,i+2⟩,none):=by simp[zCz,h1,h2];cases zA7 s<;>rfl
theorem zPB {L:List Mk} {at0 b0 n i:Nat} {s:List Nat} (h:(signAt L i 58&&signAt L (i+1) 93)=false):
  zCz L at0 b0 (n+1) i s=zCz L at0 b0 n (i+1) (s++[(zAI L i).b]):=by simp[zCz,h]
end
section
open Go.RowKit
theorem zNr {rb mb mo cap:Nat} {L:List Mk} {at0:Nat} {w:World} (h:Br w rb mb mo cap L at0) {b:Int} (n:Nat) (hbi:b=n) (hn:n+1<L.length):
  Calls Tryz.prog 274 #[.pointer (some ⟨rb,0,none⟩),.int .i64 b] w (zNH (zDz L at0 n) w):=by
 subst hbi
 have hL:=h.m.len
 have hrb:=h.lt
 go_enter Tryz.func274,Tryz.ntmps274
 go_wp2_with fail
 go_loopw [6,7] (fun v i wr=> ∃(k:Nat) (s:List Nat),n+2≤k∧k≤L.length∧i= .int .i64 k∧wr.ownsRow (w.heap.size+1) 5 1 v s.length (u8s s)∧s.length≤k∧(∀b∈s,b<256)∧
   Hid (zDz L at0 n=zCz L at0 n (L.length - k) k s)∧zFS wr w.heap.size Th.zero∧Below w.heap.size w wr) (fun _ i _=>L.length - (intOf i).toNat)
 case atStart=>exact⟨n+2,[],by omega,by omega,by go_num,zQ7 _ _ _ _,by simp,by simp,rfl,zQ4 w _,(by repeat (first|exact zQs _ _|assumption|refine zRK ?_|refine zRI ?_ (by first|(simp;done)|(simp;omega)|omega) _|refine zRJ ?_ (by first|(simp;done)|(simp;omega)|omega) _))⟩
 case round=>
  obtain⟨k,s,hk0,hk,rfl,hown,hsl,hs256,HS,hz,hbe⟩:=hrel
  have hr:=h.below hbe
  have c0:=hr.c0
  have hrb':=hr.lt
  have HZ:=zQr hz
  by_cases hlt:k<L.length
  ·have hm1:=hr.m.b k hlt
   have hu:=hr.m.u k hlt
   have hmb:=hr.m.lt
   have hno:(signAt L k 58&&signAt L (k+1) 93)=false∨(signAt L k 58=true∧signAt L (k+1) 93=true):=by cases signAt L k 58<;>cases signAt L (k+1) 93<;>simp
   rcases hno with hno|⟨e1,e2⟩
   ·have HON:=zQr (zPB (at0:=at0) (b0:=n) (n:=L.length - (k+1)) (s:=s) hno)
    have hcase:(signAt L k 58=false)∨(signAt L k 58=true∧signAt L (k+1) 93=false):=by cases h1:signAt L k 58<;>simp_all
    clear hno
    have hsz:=hz.lt
    clear hz
    rcases hcase with e1|⟨e1,e2⟩
    ·go_wp2_with fail
     refine(zAN hr k 58 (by omega) rfl).mono ?_;rintro e w1 ⟨rfl,rfl⟩
     go_wp2_with (at_builtin;refine zAe zNK rfl _ _ rfl (w.heap.size+1) rfl (hown.alloc _) rfl (Src.new wr [.int .u8 ((zAI L k).b:Nat)] _ _ _) rfl (by simp[Value.oneCell']) (by unfold maxLen;omega) (by omega) (by simp;omega) ?_)
     intro v1 w1 hown1 hgr _
     have hb1:Below (w.heap.size+1) wr w1:=Below.grown (zRI (zQs _ _) (by omega) _) hgr (by simp;omega) (fun k hk=>(hown.lt k hk).1)
     have hz1:zFS w1 w.heap.size Th.zero:=(hb1.block _ (by omega)).trans HZ.out
     have hown2:w1.ownsRow (w.heap.size+1) 5 1 v1 (s++[(zAI L k).b]).length (u8s (s++[(zAI L k).b])):=by simpa [u8s]using hown1
     have hr256: ∀b∈s++[(zAI L k).b],b<256:=by
      intro b hb
      rcases zRM.1 hb with hb|hb
      ·exact hs256 b hb
      ·simp at hb;omega
     have HF:=zQr (show n+2≤k+1∧k+1≤L.length∧w1.ownsRow (w.heap.size+1) 5 1 v1 (s++[(zAI L k).b]).length (u8s (s++[(zAI L k).b]))∧(s++[(zAI L k).b]).length≤k+1∧(∀b∈s++[(zAI L k).b],b<256)∧
      Hid (zDz L at0 n=zCz L at0 n (L.length - (k+1)) (k+1) (s++[(zAI L k).b]))∧zFS w1 w.heap.size Th.zero∧Below w.heap.size w w1 from
      ⟨by omega,by omega,hown2,by simp;omega,hr256,HS.out.trans ((congrArg (fun m=>zCz L at0 n m k s) (show L.length - k=L.length - (k+1)+1 by omega)).trans HON.out),hz1,hbe.trans (hb1.mono (by omega))⟩)
     clear hown hown1 hown2 hgr hb1 hz1 hr256 hs256 c0 hm1 hr HS HON HZ hbe
     go_wp2_with fail
     obtain⟨f1,f2,f3,f4,f5,f6,f7,f8⟩:=HF.out
     go_roundw
     case rel=>exact⟨k+1,_,f1,f2,by go_num,f3,f4,f5,f6,f7,f8⟩
     case measure=>simp[intOf];omega
    ·go_wp2_with fail
     refine(zAN hr k 58 (by omega) rfl).mono ?_;rintro e w1 ⟨rfl,rfl⟩
     go_wp2_with fail
     refine(zAN hr (k+1) 93 (by omega) rfl).mono ?_;rintro e w1 ⟨rfl,rfl⟩
     go_wp2_with (at_builtin;refine zAe zNK rfl _ _ rfl (w.heap.size+1) rfl (hown.alloc _) rfl (Src.new wr [.int .u8 ((zAI L k).b:Nat)] _ _ _) rfl (by simp[Value.oneCell']) (by unfold maxLen;omega) (by omega) (by simp;omega) ?_)
     intro v1 w1 hown1 hgr _
     have hb1:Below (w.heap.size+1) wr w1:=Below.grown (zRI (zQs _ _) (by omega) _) hgr (by simp;omega) (fun k hk=>(hown.lt k hk).1)
     have hz1:zFS w1 w.heap.size Th.zero:=(hb1.block _ (by omega)).trans HZ.out
     have hown2:w1.ownsRow (w.heap.size+1) 5 1 v1 (s++[(zAI L k).b]).length (u8s (s++[(zAI L k).b])):=by simpa [u8s]using hown1
     have hr256: ∀b∈s++[(zAI L k).b],b<256:=by
      intro b hb
      rcases zRM.1 hb with hb|hb
      ·exact hs256 b hb
      ·simp at hb;omega
     have HF:=zQr (show n+2≤k+1∧k+1≤L.length∧w1.ownsRow (w.heap.size+1) 5 1 v1 (s++[(zAI L k).b]).length (u8s (s++[(zAI L k).b]))∧(s++[(zAI L k).b]).length≤k+1∧(∀b∈s++[(zAI L k).b],b<256)∧
      Hid (zDz L at0 n=zCz L at0 n (L.length - (k+1)) (k+1) (s++[(zAI L k).b]))∧zFS w1 w.heap.size Th.zero∧Below w.heap.size w w1 from
      ⟨by omega,by omega,hown2,by simp;omega,hr256,HS.out.trans ((congrArg (fun m=>zCz L at0 n m k s) (show L.length - k=L.length - (k+1)+1 by omega)).trans HON.out),hz1,hbe.trans (hb1.mono (by omega))⟩)
     clear hown hown1 hown2 hgr hb1 hz1 hr256 hs256 c0 hm1 hr HS HON HZ hbe
     go_wp2_with fail
     obtain⟨f1,f2,f3,f4,f5,f6,f7,f8⟩:=HF.out
     go_roundw
     case rel=>exact⟨k+1,_,f1,f2,by go_num,f3,f4,f5,f6,f7,f8⟩
     case measure=>simp[intOf];omega
   ·have HD:=zQr (zMU (at0:=at0) (b0:=n) (n:=L.length - (k+1)) (s:=s) e1 e2)
    have hsz:=hz.lt
    clear hz
    have hconv:=zOI hown
    have hbs:=zFR s hs256
    generalize hstr:strOfNums (s.map fun b:Nat=>(b:Int))=str at hconv hbs
    clear hstr hown hs256 hm1
    go_wp2_with fail
    refine(zAN hr k 58 (by omega) rfl).mono ?_;rintro e w1 ⟨rfl,rfl⟩
    go_wp2_with fail
    refine(zAN hr (k+1) 93 (by omega) rfl).mono ?_;rintro e w1 ⟨rfl,rfl⟩
    go_wp2_with fail
    have hnm:=zMT str wr
    rw[hbs]at hnm
    have hlen:L.length - k=L.length - (k+1)+1:=by omega
    cases e3:zA7 s with
    |none=>
     have HE:Hid (zDz L at0 n=(Th.zero,some (31,n))):=by
      rw[hlen]at HS
      refine HS.out.trans (HD.out.trans ?_)
      rw[e3]
     rw[e3]at hnm
     simp only[Option.getD_none,Option.isSome_none]at hnm
     clear HS HD e3 hlen hbs
     refine hnm.mono ?_;rintro e w1 ⟨rfl,hb1⟩
     have hs1:w.heap.size<w1.heap.size:=zQu hsz hb1.size
     have hz1:zJn w1 w.heap.size:=(HZ.out.below hb1).is
     have hbe1:=hbe.trans (hb1.mono (by omega))
     obtain⟨z0,z1,z2,z3,z4,z5,z6⟩:=(HZ.out.below hb1).cells
     have f0:=zAF (HZ.out.below hb1)
     clear hb1 hbe
     go_wp2_with fail
     rw[zAO]
     rw[HE.out]
     exact zAq Tryz.results274 rfl rfl rfl hz1 (((zQs _ _).alloc (by simp[zAP];omega) _).alloc (by simp[zAP];omega) _) rfl (zCx (e:=31) (by simp[zAP]) (by simp[zAP];omega)) hbe1 (zQt _)
    |some c=>
     have HE:Hid (zDz L at0 n=(⟨c,0,false,k+2⟩,none)):=by
      rw[hlen]at HS
      refine HS.out.trans (HD.out.trans ?_)
      rw[e3]
     rw[e3]at hnm
     simp only[Option.getD_some,Option.isSome_some]at hnm
     clear HS HD e3 hlen hbs
     refine hnm.mono ?_;rintro e w1 ⟨rfl,hb1⟩
     have hs1:w.heap.size<w1.heap.size:=zQu hsz hb1.size
     have hz1:zJn w1 w.heap.size:=(HZ.out.below hb1).is
     have hbe1:=hbe.trans (hb1.mono (by omega))
     obtain⟨z0,z1,z2,z3,z4,z5,z6⟩:=(HZ.out.below hb1).cells
     have f0:=zAF (HZ.out.below hb1)
     clear hb1 hbe
     go_wp2_with fail
     rw[zAO]
     rw[HE.out]
     exact zAq Tryz.results274 rfl rfl rfl hz1 ((zQs _ _).alloc (by simp[zAP];omega) _) rfl rfl hbe1 (zQt _)
  ·have hsz:=hz.lt
   clear hz
   have HE:Hid (zDz L at0 n=(Th.zero,some (32,at0))):=by
    refine HS.out.trans ?_
    rw[show L.length - k=0 by omega]
    rfl
   clear HS
   go_wp2_with fail
   refine(zEc hr).mono ?_;rintro e w1 ⟨v,rfl,hf,hb1⟩
   have hs1:w.heap.size<w1.heap.size:=zQu hsz hb1.size
   have hz1:zJn w1 w.heap.size:=(HZ.out.below hb1).is
   have hbe1:=hbe.trans (hb1.mono (by omega))
   obtain⟨z0,z1,z2,z3,z4,z5,z6⟩:=(HZ.out.below hb1).cells
   have f0:=zAF (HZ.out.below hb1)
   have HF:=zQr hf
   clear hbe hf hb1
   go_wp2_with fail
   rw[zAO]
   rw[HE.out]
   exact zAq Tryz.results274 rfl rfl rfl hz1 (zQs _ _) rfl ((HF.out.set hsz _ _ _ _ _ _ _).mono (Nat.le_of_lt hsz)) hbe1 (zQt _)
end
section
open Go.RowKit
theorem zHf (a b:Nat):((a:Int)==(b:Int))=(a==b):=by
 rw[Bool.eq_iff_iff];simp;omega
theorem zFQ {rb mb mo cap:Nat} {L:List Mk} {at0:Nat} {w:World} (h:Br w rb mb mo cap L at0) {b c:Int} (n k:Nat) (hbi:b=n) (hck:c=k) (hn:n+1<L.length):
  Calls Tryz.prog 275 #[.pointer (some ⟨rb,0,none⟩),.int .i64 b,.int .u8 c] w (zNH (zAo L at0 n k) w):=by
 subst hbi
 subst hck
 have hL:=h.m.len
 have hrb:=h.lt
 have h1:=h.below ((zQs _ _).alloc (zQt _) (.cells #[.int .u64 0,.int .u64 0,.int .u64 0,.int .u64 0,.int .u8 0,.bool false,.int .i64 0] 291))
 have hz:zFS (w.alloc (.cells #[.int .u64 0,.int .u64 0,.int .u64 0,.int .u64 0,.int .u8 0,.bool false,.int .i64 0] 291)) w.heap.size Th.zero:=zQ4 w _
 have hb0:Below w.heap.size w (w.alloc (.cells #[.int .u64 0,.int .u64 0,.int .u64 0,.int .u64 0,.int .u8 0,.bool false,.int .i64 0] 291)):=(by repeat (first|exact zQs _ _|assumption|refine zRK ?_|refine zRI ?_ (by first|(simp;done)|(simp;omega)|omega) _|refine zRJ ?_ (by first|(simp;done)|(simp;omega)|omega) _))
 have hs0:w.heap.size<(w.alloc (.cells #[.int .u64 0,.int .u64 0,.int .u64 0,.int .u64 0,.int .u8 0,.bool false,.int .i64 0] 291)).heap.size:=by simp
 go_enter Tryz.func275,Tryz.ntmps275
 go_wp2_with fail
 revert h1 hz hb0 hs0
 generalize w.alloc (.cells #[.int .u64 0,.int .u64 0,.int .u64 0,.int .u64 0,.int .u8 0,.bool false,.int .i64 0] 291)=wr
 intro h1 hz hb0 hs0
 have c0:=h1.c0
 have hrb':=h1.lt
 have his:=hz.is
 obtain⟨z0,z1,z2,z3,z4,z5,z6⟩:=hz.cells
 have f0:=zAF hz
 have HZ:=zQr hz
 clear hz
 have i0: ∀w,(Instr.index 323 (.agg #[.int .u8 (k:Nat),.int .u8 93]) (.int .i64 0)).run Tryz.prog w= .ok (.int .u8 (k:Nat)) w:=fun _=>by kernel_rfl
 have i1: ∀w,(Instr.index 323 (.agg #[.int .u8 (k:Nat),.int .u8 93]) (.int .i64 1)).run Tryz.prog w= .ok (.int .u8 93) w:=fun _=>by kernel_rfl
 have hle:=hb0.size
 refine wp_loop_rounds 3 ?_
 by_cases g1:L.length≤n+3
 ·have HE:Hid (zAo L at0 n k=(Th.zero,some (32,at0))):=by simp[Hid,zAo,g1]
  rw[rounds_succ]
  go_wp2_with fail
  refine(zEc h1).mono ?_;rintro e w1 ⟨v,rfl,hf,hb1⟩
  have hf1:=hf.mono hb0.size
  have hbe1:=hb0.trans (hb1.mono hb0.size)
  have hz1:=HZ.out.below hb1
  have his1:=hz1.is
  obtain⟨z0,z1,z2,z3,z4,z5,z6⟩:=hz1.cells
  have f0:=zAF hz1
  have HF:=zQr hf
  clear hf hf1 hb1 hz1
  go_wp2_with fail
  rw[zAO]
  rw[HE.out]
  exact zAq Tryz.results275 rfl rfl rfl his1 (zQs _ _) rfl ((HF.out.set hs0 _ _ _ _ _ _ _).mono hb0.size) hbe1 (zQt _)
 ·cases e1:signAt L (n+3) k with
  |false=>
   have HE:Hid (zAo L at0 n k=(Th.zero,some (31,n))):=by simp[Hid,zAo,g1,e1]
   rw[rounds_succ]
   go_wp2_with fail
   refine(zAN h1 (n+3) k (by omega) rfl).mono ?_;rintro e w1 ⟨rfl,rfl⟩
   go_wp2_with fail
   rw[zAO]
   rw[HE.out]
   exact zAq Tryz.results275 rfl rfl rfl his ((zQs _ _).alloc (by simp[zAP];omega) _) rfl (zCx (e:=31) (by simp[zAP]) (by simp[zAP];omega)) hb0 (zQt _)
  |true=>
   by_cases g2:L.length≤n+4
   ·have HE:Hid (zAo L at0 n k=(Th.zero,some (32,at0))):=by simp[Hid,zAo,g1,e1,g2]
    rw[rounds_succ]
    go_wp2_with fail
    refine(zAN h1 (n+3) k (by omega) rfl).mono ?_;rintro e w1 ⟨rfl,rfl⟩
    go_wp2_with fail
    rw[rounds_succ]
    go_wp2_with fail
    refine(zEc h1).mono ?_;rintro e w1 ⟨v,rfl,hf,hb1⟩
    have hf1:=hf.mono hb0.size
    have hbe1:=hb0.trans (hb1.mono hb0.size)
    have hz1:=HZ.out.below hb1
    have his1:=hz1.is
    obtain⟨z0,z1,z2,z3,z4,z5,z6⟩:=hz1.cells
    have f0:=zAF hz1
    have HF:=zQr hf
    clear hf hf1 hb1 hz1
    go_wp2_with fail
    rw[zAO]
    rw[HE.out]
    exact zAq Tryz.results275 rfl rfl rfl his1 (zQs _ _) rfl ((HF.out.set hs0 _ _ _ _ _ _ _).mono hb0.size) hbe1 (zQt _)
   ·cases e2:signAt L (n+4) 93 with
    |false=>
     have HE:Hid (zAo L at0 n k=(Th.zero,some (31,n))):=by simp[Hid,zAo,g1,e1,g2,e2]
     rw[rounds_succ]
     go_wp2_with fail
     refine(zAN h1 (n+3) k (by omega) rfl).mono ?_;rintro e w1 ⟨rfl,rfl⟩
     go_wp2_with fail
     rw[rounds_succ]
     go_wp2_with fail
     refine(zAN h1 (n+4) 93 (by omega) rfl).mono ?_;rintro e w1 ⟨rfl,rfl⟩
     go_wp2_with fail
     rw[zAO]
     rw[HE.out]
     exact zAq Tryz.results275 rfl rfl rfl his ((zQs _ _).alloc (by simp[zAP];omega) _) rfl (zCx (e:=31) (by simp[zAP]) (by simp[zAP];omega)) hb0 (zQt _)
    |true=>
     have HE:Hid (zAo L at0 n k=(⟨Cls.of [(zAI L (n+2)).b],(zAI L (n+2)).b,k==46,n+5⟩,none)):=by simp[Hid,zAo,g1,e1,g2,e2]
     have hm2:=h1.m.b (n+2) (by omega)
     have hu2:=h1.m.u (n+2) (by omega)
     have hmb:=h1.m.lt
     rw[rounds_succ]
     go_wp2_with fail
     refine(zAN h1 (n+3) k (by omega) rfl).mono ?_;rintro e w1 ⟨rfl,rfl⟩
     go_wp2_with fail
     rw[rounds_succ]
     go_wp2_with fail
     refine(zAN h1 (n+4) 93 (by omega) rfl).mono ?_;rintro e w1 ⟨rfl,rfl⟩
     go_wp2_with fail
     rw[rounds_succ]
     go_wp2_with fail
     refine(zEd [(zAI L (n+2)).b] #[.int .u8 (zAI L (n+2)).b] rfl (by simpa using hu2) (by simp) _).mono ?_;rintro e w1 ⟨rfl,hb1⟩
     have hb2:Below wr.heap.size wr w1:=Below.trans (by repeat (first|exact zQs _ _|assumption|refine zRK ?_|refine zRI ?_ (by first|(simp;done)|(simp;omega)|omega) _|refine zRJ ?_ (by first|(simp;done)|(simp;omega)|omega) _)) (hb1.mono (by simp))
     have hbe1:=hb0.trans (hb2.mono hb0.size)
     have hz1:=HZ.out.below hb2
     have his1:=hz1.is
     obtain⟨z0,z1,z2,z3,z4,z5,z6⟩:=hz1.cells
     have f0:=zAF hz1
     clear hb1 hb2 hz1
     go_wp2_with fail
     rw[zAO]
     rw[HE.out]
     exact zAq Tryz.results275 rfl rfl rfl his1 (zQs _ _) (by rw[show((k:Int)==46)=(k==46)from zHf k 46];rfl) rfl hbe1 (zQt _)
theorem zEP {rb mb mo cap:Nat} {L:List Mk} {at0:Nat} {w:World} (h:Br w rb mb mo cap L at0) {b:Int} (n:Nat) (hbi:b=n) (hn:n≤65536):
  Calls Tryz.prog 262 #[.pointer (some ⟨rb,0,none⟩),.int .i64 b] w (zNH (zAp L at0 n) w):=by
 subst hbi
 have hL:=h.m.len
 have hrb:=h.lt
 have h1:=h.below ((zQs _ _).alloc (zQt _) (.cells #[.int .u64 0,.int .u64 0,.int .u64 0,.int .u64 0,.int .u8 0,.bool false,.int .i64 0] 291))
 have hz:zFS (w.alloc (.cells #[.int .u64 0,.int .u64 0,.int .u64 0,.int .u64 0,.int .u8 0,.bool false,.int .i64 0] 291)) w.heap.size Th.zero:=zQ4 w _
 have hb0:Below w.heap.size w (w.alloc (.cells #[.int .u64 0,.int .u64 0,.int .u64 0,.int .u64 0,.int .u8 0,.bool false,.int .i64 0] 291)):=(by repeat (first|exact zQs _ _|assumption|refine zRK ?_|refine zRI ?_ (by first|(simp;done)|(simp;omega)|omega) _|refine zRJ ?_ (by first|(simp;done)|(simp;omega)|omega) _))
 have hs0:w.heap.size<(w.alloc (.cells #[.int .u64 0,.int .u64 0,.int .u64 0,.int .u64 0,.int .u8 0,.bool false,.int .i64 0] 291)).heap.size:=by simp
 go_enter Tryz.func262,Tryz.ntmps262
 go_upto_region 1 with fail
 revert h1 hz hb0 hs0
 generalize w.alloc (.cells #[.int .u64 0,.int .u64 0,.int .u64 0,.int .u64 0,.int .u8 0,.bool false,.int .i64 0] 291)=wr
 intro h1 hz hb0 hs0
 have c0:=h1.c0
 have hrb':=h1.lt
 have his:=hz.is
 obtain⟨z0,z1,z2,z3,z4,z5,z6⟩:=hz.cells
 have f0:=zAF hz
 have HZ:=zQr hz
 clear hz
 have hle:=hb0.size
 by_cases g1:L.length≤n
 ·have HE:Hid (zAp L at0 n=(Th.zero,some (32,at0))):=by simp[Hid,zAp,g1]
  go_wp2_with fail
  refine(zEc h1).mono ?_;rintro e w1 ⟨v,rfl,hf,hb1⟩
  have hbe1:=hb0.trans (hb1.mono hle)
  have hz1:=HZ.out.below hb1
  have his1:=hz1.is
  obtain⟨z0,z1,z2,z3,z4,z5,z6⟩:=hz1.cells
  have f0:=zAF hz1
  have HF:=zQr hf
  clear hf hb1 hz1
  go_wp2_with fail
  rw[zAO]
  rw[HE.out]
  exact zAq Tryz.results262 rfl rfl rfl his1 (zQs _ _) rfl ((HF.out.set hs0 _ _ _ _ _ _ _).mono hle) hbe1 (zQt _)
 ·have hm:=h1.m.b n (by omega)
  have hu:=h1.m.u n (by omega)
  have hmb:=h1.m.lt
  cases e1:signAt L n 91 with
  |false=>
   have HE:Hid (zAp L at0 n=(⟨Cls.of [(zAI L n).b],(zAI L n).b,true,n+1⟩,none)):=by simp[Hid,zAp,g1,e1]
   go_wp2_with fail
   refine(zAN h1 n 91 rfl rfl).mono ?_;rintro e w1 ⟨rfl,rfl⟩
   go_wp2_with fail
   refine(zEd [(zAI L n).b] #[.int .u8 (zAI L n).b] rfl (by simpa using hu) (by simp) _).mono ?_;rintro e w1 ⟨rfl,hb1⟩
   have hb2:Below wr.heap.size wr w1:=Below.trans (by repeat (first|exact zQs _ _|assumption|refine zRK ?_|refine zRI ?_ (by first|(simp;done)|(simp;omega)|omega) _|refine zRJ ?_ (by first|(simp;done)|(simp;omega)|omega) _)) (hb1.mono (by simp))
   have hbe1:=hb0.trans (hb2.mono hle)
   have hz1:=HZ.out.below hb2
   have his1:=hz1.is
   obtain⟨z0,z1,z2,z3,z4,z5,z6⟩:=hz1.cells
   have f0:=zAF hz1
   clear hb1 hb2 hz1
   go_wp2_with fail
   rw[zAO]
   rw[HE.out]
   exact zAq Tryz.results262 rfl rfl rfl his1 (zQs _ _) rfl rfl hbe1 (zQt _)
  |true=>
   by_cases g2:n+1<L.length
   ·have hm1:=h1.m.b (n+1) g2
    have hp1:=h1.m.p (n+1) g2
    cases e2:(zAI L (n+1)).p with
    |true=>
     have HE:Hid (zAp L at0 n=(⟨Cls.of [(zAI L n).b],(zAI L n).b,true,n+1⟩,none)):=by simp[Hid,zAp,g1,e1,e2]
     rw[e2]at hp1
     go_wp2_with fail
     refine(zAN h1 n 91 rfl rfl).mono ?_;rintro e w1 ⟨rfl,rfl⟩
     go_wp2_with fail
     refine(zEd [(zAI L n).b] #[.int .u8 (zAI L n).b] rfl (by simpa using hu) (by simp) _).mono ?_;rintro e w1 ⟨rfl,hb1⟩
     have hb2:Below wr.heap.size wr w1:=Below.trans (by repeat (first|exact zQs _ _|assumption|refine zRK ?_|refine zRI ?_ (by first|(simp;done)|(simp;omega)|omega) _|refine zRJ ?_ (by first|(simp;done)|(simp;omega)|omega) _)) (hb1.mono (by simp))
     have hbe1:=hb0.trans (hb2.mono hle)
     have hz1:=HZ.out.below hb2
     have his1:=hz1.is
     obtain⟨z0,z1,z2,z3,z4,z5,z6⟩:=hz1.cells
     have f0:=zAF hz1
     clear hb1 hb2 hz1
     go_wp2_with fail
     rw[zAO]
     rw[HE.out]
     exact zAq Tryz.results262 rfl rfl rfl his1 (zQs _ _) rfl rfl hbe1 (zQt _)
    |false=>
     rw[e2]at hp1
     by_cases q1:(zAI L (n+1)).b=58
     ·have HE:Hid (zAp L at0 n=zDz L at0 n):=by simp[Hid,zAp,g1,g2,e1,e2,q1]
      have t1:(((zAI L (n+1)).b:Int)==58)=true:=by rw[q1];rfl
      clear q1
      go_wp2_with fail
      refine(zAN h1 n 91 rfl rfl).mono ?_;rintro e w1 ⟨rfl,rfl⟩
      go_wp2_with fail
      refine(zNr h1 n rfl g2).mono ?_;rintro e w1 ⟨v,rfl,hf,hb1⟩
      have hbe1:=hb0.trans (hb1.mono hle)
      have hz1:=HZ.out.below hb1
      have his1:=hz1.is
      obtain⟨z0,z1,z2,z3,z4,z5,z6⟩:=hz1.cells
      have f0:=zAF hz1
      have HF:=zQr hf
      clear hf hb1 hz1
      go_wp2_with fail
      rw[zAO]
      rw[HE.out]
      exact zAq Tryz.results262 rfl rfl rfl his1 (zQs _ _) rfl ((HF.out.set hs0 _ _ _ _ _ _ _).mono hle) hbe1 (zQt _)
     ·have t1:(((zAI L (n+1)).b:Int)==58)=false:=(show(((zAI L (n+1)).b:Int)==58)=((zAI L (n+1)).b==58)from zHf _ 58).trans (by simpa using q1)
      by_cases q2:(zAI L (n+1)).b=61
      ·have HE:Hid (zAp L at0 n=zAo L at0 n (zAI L (n+1)).b):=by simp[Hid,zAp,g1,g2,e1,e2,q2]
       have t2:(((zAI L (n+1)).b:Int)==61)=true:=by rw[q2];rfl
       clear q1 q2
       go_wp2_with fail
       refine(zAN h1 n 91 rfl rfl).mono ?_;rintro e w1 ⟨rfl,rfl⟩
       go_wp2_with fail
       refine(zFQ h1 n _ rfl rfl g2).mono ?_;rintro e w1 ⟨v,rfl,hf,hb1⟩
       have hbe1:=hb0.trans (hb1.mono hle)
       have hz1:=HZ.out.below hb1
       have his1:=hz1.is
       obtain⟨z0,z1,z2,z3,z4,z5,z6⟩:=hz1.cells
       have f0:=zAF hz1
       have HF:=zQr hf
       clear hf hb1 hz1
       go_wp2_with fail
       rw[zAO]
       rw[HE.out]
       exact zAq Tryz.results262 rfl rfl rfl his1 (zQs _ _) rfl ((HF.out.set hs0 _ _ _ _ _ _ _).mono hle) hbe1 (zQt _)
      ·have t2:(((zAI L (n+1)).b:Int)==61)=false:=(show(((zAI L (n+1)).b:Int)==61)=((zAI L (n+1)).b==61)from zHf _ 61).trans (by simpa using q2)
       by_cases q3:(zAI L (n+1)).b=46
       ·have HE:Hid (zAp L at0 n=zAo L at0 n (zAI L (n+1)).b):=by simp[Hid,zAp,g1,g2,e1,e2,q3]
        have t3:(((zAI L (n+1)).b:Int)==46)=true:=by rw[q3];rfl
        clear q1 q2 q3
        go_wp2_with fail
        refine(zAN h1 n 91 rfl rfl).mono ?_;rintro e w1 ⟨rfl,rfl⟩
        go_wp2_with fail
        refine(zFQ h1 n _ rfl rfl g2).mono ?_;rintro e w1 ⟨v,rfl,hf,hb1⟩
        have hbe1:=hb0.trans (hb1.mono hle)
        have hz1:=HZ.out.below hb1
        have his1:=hz1.is
        obtain⟨z0,z1,z2,z3,z4,z5,z6⟩:=hz1.cells
        have f0:=zAF hz1
        have HF:=zQr hf
        clear hf hb1 hz1
        go_wp2_with fail
        rw[zAO]
        rw[HE.out]
        exact zAq Tryz.results262 rfl rfl rfl his1 (zQs _ _) rfl ((HF.out.set hs0 _ _ _ _ _ _ _).mono hle) hbe1 (zQt _)
       ·have t3:(((zAI L (n+1)).b:Int)==46)=false:=(show(((zAI L (n+1)).b:Int)==46)=((zAI L (n+1)).b==46)from zHf _ 46).trans (by simpa using q3)
        have HE:Hid (zAp L at0 n=(⟨Cls.of [(zAI L n).b],(zAI L n).b,true,n+1⟩,none)):=by simp[Hid,zAp,g1,e1,e2,q1,q2,q3]
        clear q1 q2 q3
        go_wp2_with fail
        refine(zAN h1 n 91 rfl rfl).mono ?_;rintro e w1 ⟨rfl,rfl⟩
        go_wp2_with fail
        refine(zEd [(zAI L n).b] #[.int .u8 (zAI L n).b] rfl (by simpa using hu) (by simp) _).mono ?_;rintro e w1 ⟨rfl,hb1⟩
        have hb2:Below wr.heap.size wr w1:=Below.trans (by repeat (first|exact zQs _ _|assumption|refine zRK ?_|refine zRI ?_ (by first|(simp;done)|(simp;omega)|omega) _|refine zRJ ?_ (by first|(simp;done)|(simp;omega)|omega) _)) (hb1.mono (by simp))
        have hbe1:=hb0.trans (hb2.mono hle)
        have hz1:=HZ.out.below hb2
        have his1:=hz1.is
        obtain⟨z0,z1,z2,z3,z4,z5,z6⟩:=hz1.cells
        have f0:=zAF hz1
        clear hb1 hb2 hz1
        go_wp2_with fail
        rw[zAO]
        rw[HE.out]
        exact zAq Tryz.results262 rfl rfl rfl his1 (zQs _ _) rfl rfl hbe1 (zQt _)
   ·have HE:Hid (zAp L at0 n=(⟨Cls.of [(zAI L n).b],(zAI L n).b,true,n+1⟩,none)):=by simp[Hid,zAp,g1,e1,g2]
    go_wp2_with fail
    refine(zAN h1 n 91 rfl rfl).mono ?_;rintro e w1 ⟨rfl,rfl⟩
    go_wp2_with fail
    refine(zEd [(zAI L n).b] #[.int .u8 (zAI L n).b] rfl (by simpa using hu) (by simp) _).mono ?_;rintro e w1 ⟨rfl,hb1⟩
    have hb2:Below wr.heap.size wr w1:=Below.trans (by repeat (first|exact zQs _ _|assumption|refine zRK ?_|refine zRI ?_ (by first|(simp;done)|(simp;omega)|omega) _|refine zRJ ?_ (by first|(simp;done)|(simp;omega)|omega) _)) (hb1.mono (by simp))
    have hbe1:=hb0.trans (hb2.mono hle)
    have hz1:=HZ.out.below hb2
    have his1:=hz1.is
    obtain⟨z0,z1,z2,z3,z4,z5,z6⟩:=hz1.cells
    have f0:=zAF hz1
    clear hb1 hb2 hz1
    go_wp2_with fail
    rw[zAO]
    rw[HE.out]
    exact zAq Tryz.results262 rfl rfl rfl his1 (zQs _ _) rfl rfl hbe1 (zQt _)
end
section
open Go.RowKit
theorem Flt.drew {base:Nat} {w:World} {v:Value} {f:Option (Nat × Nat)} (h:Flt base w v f):Flt base w.drew v f:=h.below (zQs _ _).drew
theorem zFd {rb mb mo cap:Nat} {L:List Mk} {at0:Nat} {w:World} (h:Br w rb mb mo cap L at0) {b:Int} (n:Nat) (hbi:b=n) (hn:n≤65530) (first:Bool):
  Calls Tryz.prog 246 #[.pointer (some ⟨rb,0,none⟩),.int .i64 b,.bool first] w (zNH (zAt L at0 n first) w):=by
 subst hbi
 have hL:=h.m.len
 have h0:=h.below ((zQs _ _).alloc (zQt _) (.cells #[.int .u64 0,.int .u64 0,.int .u64 0,.int .u64 0,.int .u8 0,.bool false,.int .i64 0] 291))
 have hz0:zFS (w.alloc (.cells #[.int .u64 0,.int .u64 0,.int .u64 0,.int .u64 0,.int .u8 0,.bool false,.int .i64 0] 291)) w.heap.size Th.zero:=zQ4 w _
 go_enter Tryz.func246,Tryz.ntmps246
 go_wp2_with fail
 refine(zEP h0 n rfl (by omega)).mono ?_;rintro e w1 ⟨v,rfl,hf,hb1⟩
 generalize hth:zAp L at0 n=r at*
 obtain⟨a,fa⟩:=r
 have HT:=zQr hth
 clear hth
 simp only at hf
 have hbw:Below w.heap.size w w1:=Below.trans (by repeat (first|exact zQs _ _|assumption|refine zRK ?_|refine zRI ?_ (by first|(simp;done)|(simp;omega)|omega) _|refine zRJ ?_ (by first|(simp;done)|(simp;omega)|omega) _)) (hb1.mono (by simp))
 have hz1:=hz0.below hb1
 have h1:=h0.below hb1
 have hs1:w.heap.size<w1.heap.size:=by have:=hb1.size;simp at this;omega
 have hfw:Flt (w.heap.size+1) w1 v fa:=by simpa using hf
 clear hf hz0 h0 hb1
 go_upto_region 2 with fail
 have hx:zFS (w1.alloc (.cells #[.int .u64 a.set.w0.toNat,.int .u64 a.set.w1.toNat,.int .u64 a.set.w2.toNat,.int .u64 a.set.w3.toNat,.int .u8 (a.b:Nat),.bool a.fin,.int .i64 (a.next:Nat)] 291)) w1.heap.size a:=zQ4 w1 _
 have hbx:Below w1.heap.size w1 (w1.alloc (.cells #[.int .u64 a.set.w0.toNat,.int .u64 a.set.w1.toNat,.int .u64 a.set.w2.toNat,.int .u64 a.set.w3.toNat,.int .u8 (a.b:Nat),.bool a.fin,.int .i64 (a.next:Nat)] 291)):=(zQs _ _).alloc (zQt _) _
 have hsx:w1.heap.size<(w1.alloc (.cells #[.int .u64 a.set.w0.toNat,.int .u64 a.set.w1.toNat,.int .u64 a.set.w2.toNat,.int .u64 a.set.w3.toNat,.int .u8 (a.b:Nat),.bool a.fin,.int .i64 (a.next:Nat)] 291)).heap.size:=by simp
 revert hx hbx hsx
 generalize w1.alloc (.cells #[.int .u64 a.set.w0.toNat,.int .u64 a.set.w1.toNat,.int .u64 a.set.w2.toNat,.int .u64 a.set.w3.toNat,.int .u8 (a.b:Nat),.bool a.fin,.int .i64 (a.next:Nat)] 291)=wx
 intro hx hbx hsx
 have hb0:Below w.heap.size w wx:=hbw.trans (hbx.mono (by omega))
 have h1:=h1.below hbx
 have hz1:=hz1.below hbx
 have his:=hz1.is
 have hfx:=hfw.below hbx
 have HX:=zQr hx
 have HZ:=zQr hz1
 obtain⟨z0,z1,z2,z3,z4,z5,z6⟩:=hz1.cells
 have f0:=zAF hz1
 obtain⟨x0,x1,x2,x3,x4,x5,x6⟩:=hx.cells
 have hle:=hb0.size
 have hlx:w.heap.size<wx.heap.size:=by omega
 have c0:=h1.c0
 have hrb:=h1.lt
 clear hbw hz1 hfw hbx hx
 generalize w1.heap.size=b8 at*
 cases fa with
 |some f=>
  have HE:Hid (zAt L at0 n first=(a,some f)):=by simp only[Hid,zAt,HT.out]
  obtain⟨fe,fat⟩:=f
  obtain⟨fb,rfl,hfge,hflt,hfc0,hfc1⟩:=hfx
  have hfl:Hid (Flt (w.heap.size+1) wx (.pointer (some ⟨fb,0,none⟩)) (some (fe,fat))):=⟨fb,rfl,hfge,hflt,hfc0,hfc1⟩
  clear hfc0 hfc1
  go_wp2_with fail
  rw[zAO]
  rw[HE.out]
  exact zAq Tryz.results246 rfl rfl rfl his (zQs _ _) rfl ((hfl.out.set (Nat.lt_succ_self _) _ _ _ _ _ _ _).mono (Nat.le_succ _)) hb0 (zQt _)
 |none=>
  have hv:v= .pointer none:=hfx
  subst hv
  clear hfx
  obtain⟨hn1,hn2,hab⟩:=zB0 HT.out h1.m.u
  have hIT:Hid (zAt L at0 n first=if signAt L n 45&& !first&& !signAt L (n+1) 93 then
    if L.length≤n+1 then(a,some (32,at0))else(a,some (30,n))
   else if !signAt L a.next 45||decide (L.length≤a.next+1)||signAt L (a.next+1) 93 then(a,none)
   else if !a.fin then(a,some (30,n))
   else match zAp L at0 (a.next+1)with
    |(b,some f)=>(b,some f)
    |(b,none)=>if !b.fin||decide (b.b<a.b)then(b,some (30,n))else(⟨Cls.range a.b b.b,0,false,b.next⟩,none)):=by
   simp only[Hid,zAt,HT.out];rfl
  cases e1:signAt L n 45 with
  |false=>
   go_wp2_with fail
   refine(zAN h1 (n) 45 (rfl) rfl).mono ?_;rintro e ww ⟨rfl,rfl⟩
   cases e3:signAt L a.next 45 with
   |false=>
    have HE:Hid (zAt L at0 n first=(a,none)):=hIT.out.trans (by simp[e1,e3])
    go_wp2_with fail
    refine zAA (X:=none) 23 [([0,1,2],3),([4,5,6,7,8,9,10,11,12,13,14,15,16,17,18,19,20],21)] [22] (by kernel_rfl) (by kernel_rfl) rfl (fun _ _ _ _ _ h=>h) ?_
    simp only[zAK,zAC,zAE,zAD,zAB,List.getD_cons_zero,List.getD_cons_succ,List.drop_succ_cons,List.drop_nil]
    repeat (go_big_quiet_step (fail))
    refine wpQuiet_nil ?_
    go_wp2_with fail
    refine(zAN (h1.below (zQs _ _).drew) (a.next) 45 (rfl) rfl).mono ?_;rintro e ww ⟨rfl,rfl⟩
    go_wp2_with fail
    refine⟨zAJ.refl _,?_⟩
    repeat (go_big_quiet_step (fail))
    refine wpQuiet_nil ?_
    go_wp2_with fail
    refine⟨zAJ.refl _,?_⟩
    repeat (go_big_quiet_step (fail))
    refine wpQuiet_nil ?_
    go_wp2_with fail
    rw[zAO]
    rw[HE.out]
    exact zAq Tryz.results246 rfl rfl rfl his (zQs _ _).drew rfl rfl hb0 (zQt _)
   |true=>
    by_cases g2:L.length≤a.next+1
    ·
     have t2:decide ((L.length:Int)≤(a.next:Int)+1)=true:=by simp;omega
     have HE:Hid (zAt L at0 n first=(a,none)):=hIT.out.trans (by simp[e1,e3,g2])
     go_wp2_with fail
     refine zAA (X:=none) 23 [([0,1,2],3),([4,5,6,7,8,9,10,11,12,13,14,15,16,17,18,19,20],21)] [22] (by kernel_rfl) (by kernel_rfl) rfl (fun _ _ _ _ _ h=>h) ?_
     simp only[zAK,zAC,zAE,zAD,zAB,List.getD_cons_zero,List.getD_cons_succ,List.drop_succ_cons,List.drop_nil]
     repeat (go_big_quiet_step (fail))
     refine wpQuiet_nil ?_
     go_wp2_with fail
     refine(zAN (h1.below (zQs _ _).drew) (a.next) 45 (rfl) rfl).mono ?_;rintro e ww ⟨rfl,rfl⟩
     go_wp2_with fail
     refine⟨zAJ.refl _,?_⟩
     repeat (go_big_quiet_step (fail))
     refine wpQuiet_nil ?_
     go_wp2_with fail
     refine⟨zAJ.refl _,?_⟩
     repeat (go_big_quiet_step (fail))
     refine wpQuiet_nil ?_
     go_wp2_with fail
     rw[zAO]
     rw[HE.out]
     exact zAq Tryz.results246 rfl rfl rfl his (zQs _ _).drew rfl rfl hb0 (zQt _)
    ·have t2:decide ((L.length:Int)≤(a.next:Int)+1)=false:=by simp;omega
     cases e4:signAt L (a.next+1) 93 with
     |true=>
      have HE:Hid (zAt L at0 n first=(a,none)):=hIT.out.trans (by simp[e1,e3,g2,e4])
      go_wp2_with fail
      refine zAA (X:=none) 23 [([0,1,2],3),([4,5,6,7,8,9,10,11,12,13,14,15,16,17,18,19,20],21)] [22] (by kernel_rfl) (by kernel_rfl) rfl (fun _ _ _ _ _ h=>h) ?_
      simp only[zAK,zAC,zAE,zAD,zAB,List.getD_cons_zero,List.getD_cons_succ,List.drop_succ_cons,List.drop_nil]
      repeat (go_big_quiet_step (fail))
      refine wpQuiet_nil ?_
      go_wp2_with fail
      refine(zAN (h1.below (zQs _ _).drew) (a.next) 45 (rfl) rfl).mono ?_;rintro e ww ⟨rfl,rfl⟩
      go_wp2_with fail
      refine⟨zAJ.refl _,?_⟩
      repeat (go_big_quiet_step (fail))
      refine wpQuiet_nil ?_
      go_wp2_with fail
      refine(zAN (h1.below (zQs _ _).drew) (a.next+1) 93 (rfl) rfl).mono ?_;rintro e ww ⟨rfl,rfl⟩
      go_wp2_with fail
      refine⟨zAJ.refl _,?_⟩
      repeat (go_big_quiet_step (fail))
      refine wpQuiet_nil ?_
      go_wp2_with fail
      rw[zAO]
      rw[HE.out]
      exact zAq Tryz.results246 rfl rfl rfl his (zQs _ _).drew rfl rfl hb0 (zQt _)
     |false=>
      cases e5:a.fin with
      |false=>
       rw[e5]at x5
       have HE:Hid (zAt L at0 n first=(a,some (30,n))):=hIT.out.trans (by simp[e1,e3,g2,e4,e5])
       go_wp2_with fail
       refine zAA (X:=none) 23 [([0,1,2],3),([4,5,6,7,8,9,10,11,12,13,14,15,16,17,18,19,20],21)] [22] (by kernel_rfl) (by kernel_rfl) rfl (fun _ _ _ _ _ h=>h) ?_
       simp only[zAK,zAC,zAE,zAD,zAB,List.getD_cons_zero,List.getD_cons_succ,List.drop_succ_cons,List.drop_nil]
       repeat (go_big_quiet_step (fail))
       refine wpQuiet_nil ?_
       go_wp2_with fail
       refine(zAN (h1.below (zQs _ _).drew) (a.next) 45 (rfl) rfl).mono ?_;rintro e ww ⟨rfl,rfl⟩
       go_wp2_with fail
       refine⟨zAJ.refl _,?_⟩
       repeat (go_big_quiet_step (fail))
       refine wpQuiet_nil ?_
       go_wp2_with fail
       refine(zAN (h1.below (zQs _ _).drew) (a.next+1) 93 (rfl) rfl).mono ?_;rintro e ww ⟨rfl,rfl⟩
       go_wp2_with fail
       refine⟨zAJ.refl _,?_⟩
       repeat (go_big_quiet_step (fail))
       refine wpQuiet_nil ?_
       go_wp2_with fail
       rw[zAO]
       rw[HE.out]
       exact zAq Tryz.results246 rfl rfl rfl his ((zQs _ _).alloc (by simp[zAP];omega) _).drew (by simp only[thV,e5]) (zCx (e:=30) (by simp[zAP]) (by simp[zAP];omega)).drew hb0 (zQt _)
      |true=>
       rw[e5]at x5
       go_wp2_with fail
       refine zAA (X:=none) 23 [([0,1,2],3),([4,5,6,7,8,9,10,11,12,13,14,15,16,17,18,19,20],21)] [22] (by kernel_rfl) (by kernel_rfl) rfl (fun _ _ _ _ _ h=>h) ?_
       simp only[zAK,zAC,zAE,zAD,zAB,List.getD_cons_zero,List.getD_cons_succ,List.drop_succ_cons,List.drop_nil]
       repeat (go_big_quiet_step (fail))
       refine wpQuiet_nil ?_
       go_wp2_with fail
       refine(zAN (h1.below (zQs _ _).drew) (a.next) 45 (rfl) rfl).mono ?_;rintro e ww ⟨rfl,rfl⟩
       go_wp2_with fail
       refine⟨zAJ.refl _,?_⟩
       repeat (go_big_quiet_step (fail))
       refine wpQuiet_nil ?_
       go_wp2_with fail
       refine(zAN (h1.below (zQs _ _).drew) (a.next+1) 93 (rfl) rfl).mono ?_;rintro e ww ⟨rfl,rfl⟩
       go_wp2_with fail
       refine⟨zAJ.refl _,?_⟩
       repeat (go_big_quiet_step (fail))
       refine wpQuiet_nil ?_
       go_wp2_with fail
       refine(zEP (h1.below (zQs _ _).drew) (a.next+1) (by omega) (by omega)).mono ?_;rintro e w2 ⟨v,rfl,hf,hb1⟩
       generalize hth2:zAp L at0 (a.next+1)=r2 at*
       obtain⟨c,fc⟩:=r2
       have HT2:=zQr hth2
       clear hth2
       simp only at hf
       have hbd:Below wx.heap.size wx w2:=Below.trans (zQs _ _).drew hb1
       go_upto_region 13 with fail
       have hy:zFS (w2.alloc (.cells #[.int .u64 c.set.w0.toNat,.int .u64 c.set.w1.toNat,.int .u64 c.set.w2.toNat,.int .u64 c.set.w3.toNat,.int .u8 (c.b:Nat),.bool c.fin,.int .i64 (c.next:Nat)] 291)) w2.heap.size c:=zQ4 w2 _
       have hby:Below w2.heap.size w2 (w2.alloc (.cells #[.int .u64 c.set.w0.toNat,.int .u64 c.set.w1.toNat,.int .u64 c.set.w2.toNat,.int .u64 c.set.w3.toNat,.int .u8 (c.b:Nat),.bool c.fin,.int .i64 (c.next:Nat)] 291)):=(zQs _ _).alloc (zQt _) _
       have hsy:w2.heap.size<(w2.alloc (.cells #[.int .u64 c.set.w0.toNat,.int .u64 c.set.w1.toNat,.int .u64 c.set.w2.toNat,.int .u64 c.set.w3.toNat,.int .u8 (c.b:Nat),.bool c.fin,.int .i64 (c.next:Nat)] 291)).heap.size:=by simp
       revert hy hby hsy
       generalize w2.alloc (.cells #[.int .u64 c.set.w0.toNat,.int .u64 c.set.w1.toNat,.int .u64 c.set.w2.toNat,.int .u64 c.set.w3.toNat,.int .u8 (c.b:Nat),.bool c.fin,.int .i64 (c.next:Nat)] 291)=wy
       intro hy hby hsy
       have hbw2:Below wx.heap.size wx wy:=hbd.trans (hby.mono hbd.size)
       have hbe2:=hb0.trans (hbw2.mono hle)
       have hz2:=HZ.out.below hbw2
       have his2:=hz2.is
       clear z0 z1 z2 z3 z4 z5 z6 f0
       obtain⟨z0,z1,z2,z3,z4,z5,z6⟩:=hz2.cells
       have f0:=zAF hz2
       clear x0 x1 x2 x3 x4 x5 x6
       obtain⟨x0,x1,x2,x3,x4,x5,x6⟩:=(HX.out.below hbw2).cells
       obtain⟨y0,y1,y2,y3,y4,y5,y6⟩:=hy.cells
       have hfy:Flt wx.heap.size wy v fc:=(by exact hf:Flt wx.heap.size w2 v fc).below hby
       have hly:=hbw2.size
       have hlz:w.heap.size<wy.heap.size:=by omega
       have hlb:b8<wy.heap.size:=by omega
       have hlr:rb<wy.heap.size:=by omega
       clear hbd hby hz2 hf hb1 hy
       generalize w2.heap.size=b9 at*
       cases fc with
       |some f=>
        have HE:Hid (zAt L at0 n first=(c,some f)):=hIT.out.trans (by simp[e1,e3,g2,e4,e5])
        obtain⟨fe,fat⟩:=f
        obtain⟨fb,rfl,hfge,hflt,hfc0,hfc1⟩:=hfy
        have hfl:Hid (Flt wx.heap.size wy (.pointer (some ⟨fb,0,none⟩)) (some (fe,fat))):=⟨fb,rfl,hfge,hflt,hfc0,hfc1⟩
        clear hfc0 hfc1
        go_wp2_with fail
        rw[zAO]
        rw[HE.out]
        exact zAq Tryz.results246 rfl rfl rfl his2 (zQs _ _) rfl ((hfl.out.set hlx _ _ _ _ _ _ _).mono hle) hbe2 (zQt _)
       |none=>
        have hv:v= .pointer none:=hfy
        subst hv
        clear hfy
        obtain⟨hc1,hc2,hcb⟩:=zB0 HT2.out h1.m.u
        cases e6:c.fin with
        |false=>
         rw[e6]at y5
         have HE:Hid (zAt L at0 n first=(c,some (30,n))):=hIT.out.trans (by simp[e1,e3,g2,e4,e5,e6])
         go_wp2_with fail
         rw[zAO]
         rw[HE.out]
         exact zAq Tryz.results246 rfl rfl rfl his2 ((zQs _ _).alloc (by simp[zAP];omega) _) (by simp only[thV,e6]) (zCx (e:=30) (by simp[zAP]) (by simp[zAP];omega)) hbe2 (zQt _)
        |true=>
         by_cases g3:c.b<a.b
         ·
          rw[e6]at y5
          have HE:Hid (zAt L at0 n first=(c,some (30,n))):=hIT.out.trans (by simp[e1,e3,g2,e4,e5,e6,g3])
          go_wp2_with fail
          rw[zAO]
          rw[HE.out]
          exact zAq Tryz.results246 rfl rfl rfl his2 ((zQs _ _).alloc (by simp[zAP];omega) _) (by simp only[thV,e6]) (zCx (e:=30) (by simp[zAP]) (by simp[zAP];omega)) hbe2 (zQt _)
         ·
          rw[e6]at y5
          have HE:Hid (zAt L at0 n first=(⟨Cls.range a.b c.b,0,false,c.next⟩,none)):=hIT.out.trans (by simp[e1,e3,g2,e4,e5,e6,g3])
          go_wp2_with fail
          refine zAA (X:=none) 8 [([0,1,2,3,5,6],4)] [7] (by kernel_rfl) (by kernel_rfl) rfl (fun _ _ _ _ _ h=>h) ?_
          simp only[zAK,zAC,zAE,zAD,zAB,List.getD_cons_zero,List.getD_cons_succ,List.drop_succ_cons,List.drop_zero]
          repeat (go_big_quiet_step (fail))
          refine wpQuiet_nil ?_
          go_wp2_with fail
          refine(zBB _ _ (by omega) (by omega) (by omega) (by omega) _).mono ?_;rintro e w3 ⟨rfl,hb3⟩
          have hkp:=zAJ.of_below (X:=none) hb3
          replace hb3:Below wy.heap.size wy w3:=Below.trans (zQs _ _).drew hb3
          have hbe3:=hbe2.trans (hb3.mono (by omega))
          have hz3:=HZ.out.below (hbw2.trans (hb3.mono hly))
          have his3:=hz3.is
          clear z0 z1 z2 z3 z4 z5 z6 f0
          obtain⟨z0,z1,z2,z3,z4,z5,z6⟩:=hz3.cells
          have f0:=zAF hz3
          clear hz3
          go_wp2_with fail
          refine⟨hkp,?_⟩
          clear hkp
          repeat (go_big_quiet_step (fail))
          refine wpQuiet_nil ?_
          go_wp2_with fail
          rw[zAO]
          rw[HE.out]
          exact zAq Tryz.results246 rfl rfl rfl his3 (zQs _ _) rfl rfl hbe3 (zQt _)
  |true=>
   cases first with
   |true=>
    go_wp2_with fail
    refine(zAN h1 (n) 45 (rfl) rfl).mono ?_;rintro e ww ⟨rfl,rfl⟩
    cases e3:signAt L a.next 45 with
    |false=>
     have HE:Hid (zAt L at0 n true=(a,none)):=hIT.out.trans (by simp[e1,e3])
     go_wp2_with fail
     refine zAA (X:=none) 23 [([0,1,2],3),([4,5,6,7,8,9,10,11,12,13,14,15,16,17,18,19,20],21)] [22] (by kernel_rfl) (by kernel_rfl) rfl (fun _ _ _ _ _ h=>h) ?_
     simp only[zAK,zAC,zAE,zAD,zAB,List.getD_cons_zero,List.getD_cons_succ,List.drop_succ_cons,List.drop_nil]
     repeat (go_big_quiet_step (fail))
     refine wpQuiet_nil ?_
     go_wp2_with fail
     refine(zAN (h1.below (zQs _ _).drew) (a.next) 45 (rfl) rfl).mono ?_;rintro e ww ⟨rfl,rfl⟩
     go_wp2_with fail
     refine⟨zAJ.refl _,?_⟩
     repeat (go_big_quiet_step (fail))
     refine wpQuiet_nil ?_
     go_wp2_with fail
     refine⟨zAJ.refl _,?_⟩
     repeat (go_big_quiet_step (fail))
     refine wpQuiet_nil ?_
     go_wp2_with fail
     rw[zAO]
     rw[HE.out]
     exact zAq Tryz.results246 rfl rfl rfl his (zQs _ _).drew rfl rfl hb0 (zQt _)
    |true=>
     by_cases g2:L.length≤a.next+1
     ·
      have t2:decide ((L.length:Int)≤(a.next:Int)+1)=true:=by simp;omega
      have HE:Hid (zAt L at0 n true=(a,none)):=hIT.out.trans (by simp[e1,e3,g2])
      go_wp2_with fail
      refine zAA (X:=none) 23 [([0,1,2],3),([4,5,6,7,8,9,10,11,12,13,14,15,16,17,18,19,20],21)] [22] (by kernel_rfl) (by kernel_rfl) rfl (fun _ _ _ _ _ h=>h) ?_
      simp only[zAK,zAC,zAE,zAD,zAB,List.getD_cons_zero,List.getD_cons_succ,List.drop_succ_cons,List.drop_nil]
      repeat (go_big_quiet_step (fail))
      refine wpQuiet_nil ?_
      go_wp2_with fail
      refine(zAN (h1.below (zQs _ _).drew) (a.next) 45 (rfl) rfl).mono ?_;rintro e ww ⟨rfl,rfl⟩
      go_wp2_with fail
      refine⟨zAJ.refl _,?_⟩
      repeat (go_big_quiet_step (fail))
      refine wpQuiet_nil ?_
      go_wp2_with fail
      refine⟨zAJ.refl _,?_⟩
      repeat (go_big_quiet_step (fail))
      refine wpQuiet_nil ?_
      go_wp2_with fail
      rw[zAO]
      rw[HE.out]
      exact zAq Tryz.results246 rfl rfl rfl his (zQs _ _).drew rfl rfl hb0 (zQt _)
     ·have t2:decide ((L.length:Int)≤(a.next:Int)+1)=false:=by simp;omega
      cases e4:signAt L (a.next+1) 93 with
      |true=>
       have HE:Hid (zAt L at0 n true=(a,none)):=hIT.out.trans (by simp[e1,e3,g2,e4])
       go_wp2_with fail
       refine zAA (X:=none) 23 [([0,1,2],3),([4,5,6,7,8,9,10,11,12,13,14,15,16,17,18,19,20],21)] [22] (by kernel_rfl) (by kernel_rfl) rfl (fun _ _ _ _ _ h=>h) ?_
       simp only[zAK,zAC,zAE,zAD,zAB,List.getD_cons_zero,List.getD_cons_succ,List.drop_succ_cons,List.drop_nil]
       repeat (go_big_quiet_step (fail))
       refine wpQuiet_nil ?_
       go_wp2_with fail
       refine(zAN (h1.below (zQs _ _).drew) (a.next) 45 (rfl) rfl).mono ?_;rintro e ww ⟨rfl,rfl⟩
       go_wp2_with fail
       refine⟨zAJ.refl _,?_⟩
       repeat (go_big_quiet_step (fail))
       refine wpQuiet_nil ?_
       go_wp2_with fail
       refine(zAN (h1.below (zQs _ _).drew) (a.next+1) 93 (rfl) rfl).mono ?_;rintro e ww ⟨rfl,rfl⟩
       go_wp2_with fail
       refine⟨zAJ.refl _,?_⟩
       repeat (go_big_quiet_step (fail))
       refine wpQuiet_nil ?_
       go_wp2_with fail
       rw[zAO]
       rw[HE.out]
       exact zAq Tryz.results246 rfl rfl rfl his (zQs _ _).drew rfl rfl hb0 (zQt _)
      |false=>
       cases e5:a.fin with
       |false=>
        rw[e5]at x5
        have HE:Hid (zAt L at0 n true=(a,some (30,n))):=hIT.out.trans (by simp[e1,e3,g2,e4,e5])
        go_wp2_with fail
        refine zAA (X:=none) 23 [([0,1,2],3),([4,5,6,7,8,9,10,11,12,13,14,15,16,17,18,19,20],21)] [22] (by kernel_rfl) (by kernel_rfl) rfl (fun _ _ _ _ _ h=>h) ?_
        simp only[zAK,zAC,zAE,zAD,zAB,List.getD_cons_zero,List.getD_cons_succ,List.drop_succ_cons,List.drop_nil]
        repeat (go_big_quiet_step (fail))
        refine wpQuiet_nil ?_
        go_wp2_with fail
        refine(zAN (h1.below (zQs _ _).drew) (a.next) 45 (rfl) rfl).mono ?_;rintro e ww ⟨rfl,rfl⟩
        go_wp2_with fail
        refine⟨zAJ.refl _,?_⟩
        repeat (go_big_quiet_step (fail))
        refine wpQuiet_nil ?_
        go_wp2_with fail
        refine(zAN (h1.below (zQs _ _).drew) (a.next+1) 93 (rfl) rfl).mono ?_;rintro e ww ⟨rfl,rfl⟩
        go_wp2_with fail
        refine⟨zAJ.refl _,?_⟩
        repeat (go_big_quiet_step (fail))
        refine wpQuiet_nil ?_
        go_wp2_with fail
        rw[zAO]
        rw[HE.out]
        exact zAq Tryz.results246 rfl rfl rfl his ((zQs _ _).alloc (by simp[zAP];omega) _).drew (by simp only[thV,e5]) (zCx (e:=30) (by simp[zAP]) (by simp[zAP];omega)).drew hb0 (zQt _)
       |true=>
        rw[e5]at x5
        go_wp2_with fail
        refine zAA (X:=none) 23 [([0,1,2],3),([4,5,6,7,8,9,10,11,12,13,14,15,16,17,18,19,20],21)] [22] (by kernel_rfl) (by kernel_rfl) rfl (fun _ _ _ _ _ h=>h) ?_
        simp only[zAK,zAC,zAE,zAD,zAB,List.getD_cons_zero,List.getD_cons_succ,List.drop_succ_cons,List.drop_nil]
        repeat (go_big_quiet_step (fail))
        refine wpQuiet_nil ?_
        go_wp2_with fail
        refine(zAN (h1.below (zQs _ _).drew) (a.next) 45 (rfl) rfl).mono ?_;rintro e ww ⟨rfl,rfl⟩
        go_wp2_with fail
        refine⟨zAJ.refl _,?_⟩
        repeat (go_big_quiet_step (fail))
        refine wpQuiet_nil ?_
        go_wp2_with fail
        refine(zAN (h1.below (zQs _ _).drew) (a.next+1) 93 (rfl) rfl).mono ?_;rintro e ww ⟨rfl,rfl⟩
        go_wp2_with fail
        refine⟨zAJ.refl _,?_⟩
        repeat (go_big_quiet_step (fail))
        refine wpQuiet_nil ?_
        go_wp2_with fail
        refine(zEP (h1.below (zQs _ _).drew) (a.next+1) (by omega) (by omega)).mono ?_;rintro e w2 ⟨v,rfl,hf,hb1⟩
        generalize hth2:zAp L at0 (a.next+1)=r2 at*
        obtain⟨c,fc⟩:=r2
        have HT2:=zQr hth2
        clear hth2
        simp only at hf
        have hbd:Below wx.heap.size wx w2:=Below.trans (zQs _ _).drew hb1
        go_upto_region 13 with fail
        have hy:zFS (w2.alloc (.cells #[.int .u64 c.set.w0.toNat,.int .u64 c.set.w1.toNat,.int .u64 c.set.w2.toNat,.int .u64 c.set.w3.toNat,.int .u8 (c.b:Nat),.bool c.fin,.int .i64 (c.next:Nat)] 291)) w2.heap.size c:=zQ4 w2 _
        have hby:Below w2.heap.size w2 (w2.alloc (.cells #[.int .u64 c.set.w0.toNat,.int .u64 c.set.w1.toNat,.int .u64 c.set.w2.toNat,.int .u64 c.set.w3.toNat,.int .u8 (c.b:Nat),.bool c.fin,.int .i64 (c.next:Nat)] 291)):=(zQs _ _).alloc (zQt _) _
        have hsy:w2.heap.size<(w2.alloc (.cells #[.int .u64 c.set.w0.toNat,.int .u64 c.set.w1.toNat,.int .u64 c.set.w2.toNat,.int .u64 c.set.w3.toNat,.int .u8 (c.b:Nat),.bool c.fin,.int .i64 (c.next:Nat)] 291)).heap.size:=by simp
        revert hy hby hsy
        generalize w2.alloc (.cells #[.int .u64 c.set.w0.toNat,.int .u64 c.set.w1.toNat,.int .u64 c.set.w2.toNat,.int .u64 c.set.w3.toNat,.int .u8 (c.b:Nat),.bool c.fin,.int .i64 (c.next:Nat)] 291)=wy
        intro hy hby hsy
        have hbw2:Below wx.heap.size wx wy:=hbd.trans (hby.mono hbd.size)
        have hbe2:=hb0.trans (hbw2.mono hle)
        have hz2:=HZ.out.below hbw2
        have his2:=hz2.is
        clear z0 z1 z2 z3 z4 z5 z6 f0
        obtain⟨z0,z1,z2,z3,z4,z5,z6⟩:=hz2.cells
        have f0:=zAF hz2
        clear x0 x1 x2 x3 x4 x5 x6
        obtain⟨x0,x1,x2,x3,x4,x5,x6⟩:=(HX.out.below hbw2).cells
        obtain⟨y0,y1,y2,y3,y4,y5,y6⟩:=hy.cells
        have hfy:Flt wx.heap.size wy v fc:=(by exact hf:Flt wx.heap.size w2 v fc).below hby
        have hly:=hbw2.size
        have hlz:w.heap.size<wy.heap.size:=by omega
        have hlb:b8<wy.heap.size:=by omega
        have hlr:rb<wy.heap.size:=by omega
        clear hbd hby hz2 hf hb1 hy
        generalize w2.heap.size=b9 at*
        cases fc with
        |some f=>
         have HE:Hid (zAt L at0 n true=(c,some f)):=hIT.out.trans (by simp[e1,e3,g2,e4,e5])
         obtain⟨fe,fat⟩:=f
         obtain⟨fb,rfl,hfge,hflt,hfc0,hfc1⟩:=hfy
         have hfl:Hid (Flt wx.heap.size wy (.pointer (some ⟨fb,0,none⟩)) (some (fe,fat))):=⟨fb,rfl,hfge,hflt,hfc0,hfc1⟩
         clear hfc0 hfc1
         go_wp2_with fail
         rw[zAO]
         rw[HE.out]
         exact zAq Tryz.results246 rfl rfl rfl his2 (zQs _ _) rfl ((hfl.out.set hlx _ _ _ _ _ _ _).mono hle) hbe2 (zQt _)
        |none=>
         have hv:v= .pointer none:=hfy
         subst hv
         clear hfy
         obtain⟨hc1,hc2,hcb⟩:=zB0 HT2.out h1.m.u
         cases e6:c.fin with
         |false=>
          rw[e6]at y5
          have HE:Hid (zAt L at0 n true=(c,some (30,n))):=hIT.out.trans (by simp[e1,e3,g2,e4,e5,e6])
          go_wp2_with fail
          rw[zAO]
          rw[HE.out]
          exact zAq Tryz.results246 rfl rfl rfl his2 ((zQs _ _).alloc (by simp[zAP];omega) _) (by simp only[thV,e6]) (zCx (e:=30) (by simp[zAP]) (by simp[zAP];omega)) hbe2 (zQt _)
         |true=>
          by_cases g3:c.b<a.b
          ·
           rw[e6]at y5
           have HE:Hid (zAt L at0 n true=(c,some (30,n))):=hIT.out.trans (by simp[e1,e3,g2,e4,e5,e6,g3])
           go_wp2_with fail
           rw[zAO]
           rw[HE.out]
           exact zAq Tryz.results246 rfl rfl rfl his2 ((zQs _ _).alloc (by simp[zAP];omega) _) (by simp only[thV,e6]) (zCx (e:=30) (by simp[zAP]) (by simp[zAP];omega)) hbe2 (zQt _)
          ·
           rw[e6]at y5
           have HE:Hid (zAt L at0 n true=(⟨Cls.range a.b c.b,0,false,c.next⟩,none)):=hIT.out.trans (by simp[e1,e3,g2,e4,e5,e6,g3])
           go_wp2_with fail
           refine zAA (X:=none) 8 [([0,1,2,3,5,6],4)] [7] (by kernel_rfl) (by kernel_rfl) rfl (fun _ _ _ _ _ h=>h) ?_
           simp only[zAK,zAC,zAE,zAD,zAB,List.getD_cons_zero,List.getD_cons_succ,List.drop_succ_cons,List.drop_zero]
           repeat (go_big_quiet_step (fail))
           refine wpQuiet_nil ?_
           go_wp2_with fail
           refine(zBB _ _ (by omega) (by omega) (by omega) (by omega) _).mono ?_;rintro e w3 ⟨rfl,hb3⟩
           have hkp:=zAJ.of_below (X:=none) hb3
           replace hb3:Below wy.heap.size wy w3:=Below.trans (zQs _ _).drew hb3
           have hbe3:=hbe2.trans (hb3.mono (by omega))
           have hz3:=HZ.out.below (hbw2.trans (hb3.mono hly))
           have his3:=hz3.is
           clear z0 z1 z2 z3 z4 z5 z6 f0
           obtain⟨z0,z1,z2,z3,z4,z5,z6⟩:=hz3.cells
           have f0:=zAF hz3
           clear hz3
           go_wp2_with fail
           refine⟨hkp,?_⟩
           clear hkp
           repeat (go_big_quiet_step (fail))
           refine wpQuiet_nil ?_
           go_wp2_with fail
           rw[zAO]
           rw[HE.out]
           exact zAq Tryz.results246 rfl rfl rfl his3 (zQs _ _) rfl rfl hbe3 (zQt _)
   |false=>
    cases e2:signAt L (n+1) 93 with
    |true=>
     go_wp2_with fail
     refine(zAN h1 (n) 45 (rfl) rfl).mono ?_;rintro e ww ⟨rfl,rfl⟩
     go_wp2_with fail
     refine(zAN h1 (n+1) 93 (by omega) rfl).mono ?_;rintro e ww ⟨rfl,rfl⟩
     cases e3:signAt L a.next 45 with
     |false=>
      have HE:Hid (zAt L at0 n false=(a,none)):=hIT.out.trans (by simp[e1,e2,e3])
      go_wp2_with fail
      refine zAA (X:=none) 23 [([0,1,2],3),([4,5,6,7,8,9,10,11,12,13,14,15,16,17,18,19,20],21)] [22] (by kernel_rfl) (by kernel_rfl) rfl (fun _ _ _ _ _ h=>h) ?_
      simp only[zAK,zAC,zAE,zAD,zAB,List.getD_cons_zero,List.getD_cons_succ,List.drop_succ_cons,List.drop_nil]
      repeat (go_big_quiet_step (fail))
      refine wpQuiet_nil ?_
      go_wp2_with fail
      refine(zAN (h1.below (zQs _ _).drew) (a.next) 45 (rfl) rfl).mono ?_;rintro e ww ⟨rfl,rfl⟩
      go_wp2_with fail
      refine⟨zAJ.refl _,?_⟩
      repeat (go_big_quiet_step (fail))
      refine wpQuiet_nil ?_
      go_wp2_with fail
      refine⟨zAJ.refl _,?_⟩
      repeat (go_big_quiet_step (fail))
      refine wpQuiet_nil ?_
      go_wp2_with fail
      rw[zAO]
      rw[HE.out]
      exact zAq Tryz.results246 rfl rfl rfl his (zQs _ _).drew rfl rfl hb0 (zQt _)
     |true=>
      by_cases g2:L.length≤a.next+1
      ·
       have t2:decide ((L.length:Int)≤(a.next:Int)+1)=true:=by simp;omega
       have HE:Hid (zAt L at0 n false=(a,none)):=hIT.out.trans (by simp[e1,e2,e3,g2])
       go_wp2_with fail
       refine zAA (X:=none) 23 [([0,1,2],3),([4,5,6,7,8,9,10,11,12,13,14,15,16,17,18,19,20],21)] [22] (by kernel_rfl) (by kernel_rfl) rfl (fun _ _ _ _ _ h=>h) ?_
       simp only[zAK,zAC,zAE,zAD,zAB,List.getD_cons_zero,List.getD_cons_succ,List.drop_succ_cons,List.drop_nil]
       repeat (go_big_quiet_step (fail))
       refine wpQuiet_nil ?_
       go_wp2_with fail
       refine(zAN (h1.below (zQs _ _).drew) (a.next) 45 (rfl) rfl).mono ?_;rintro e ww ⟨rfl,rfl⟩
       go_wp2_with fail
       refine⟨zAJ.refl _,?_⟩
       repeat (go_big_quiet_step (fail))
       refine wpQuiet_nil ?_
       go_wp2_with fail
       refine⟨zAJ.refl _,?_⟩
       repeat (go_big_quiet_step (fail))
       refine wpQuiet_nil ?_
       go_wp2_with fail
       rw[zAO]
       rw[HE.out]
       exact zAq Tryz.results246 rfl rfl rfl his (zQs _ _).drew rfl rfl hb0 (zQt _)
      ·have t2:decide ((L.length:Int)≤(a.next:Int)+1)=false:=by simp;omega
       cases e4:signAt L (a.next+1) 93 with
       |true=>
        have HE:Hid (zAt L at0 n false=(a,none)):=hIT.out.trans (by simp[e1,e2,e3,g2,e4])
        go_wp2_with fail
        refine zAA (X:=none) 23 [([0,1,2],3),([4,5,6,7,8,9,10,11,12,13,14,15,16,17,18,19,20],21)] [22] (by kernel_rfl) (by kernel_rfl) rfl (fun _ _ _ _ _ h=>h) ?_
        simp only[zAK,zAC,zAE,zAD,zAB,List.getD_cons_zero,List.getD_cons_succ,List.drop_succ_cons,List.drop_nil]
        repeat (go_big_quiet_step (fail))
        refine wpQuiet_nil ?_
        go_wp2_with fail
        refine(zAN (h1.below (zQs _ _).drew) (a.next) 45 (rfl) rfl).mono ?_;rintro e ww ⟨rfl,rfl⟩
        go_wp2_with fail
        refine⟨zAJ.refl _,?_⟩
        repeat (go_big_quiet_step (fail))
        refine wpQuiet_nil ?_
        go_wp2_with fail
        refine(zAN (h1.below (zQs _ _).drew) (a.next+1) 93 (rfl) rfl).mono ?_;rintro e ww ⟨rfl,rfl⟩
        go_wp2_with fail
        refine⟨zAJ.refl _,?_⟩
        repeat (go_big_quiet_step (fail))
        refine wpQuiet_nil ?_
        go_wp2_with fail
        rw[zAO]
        rw[HE.out]
        exact zAq Tryz.results246 rfl rfl rfl his (zQs _ _).drew rfl rfl hb0 (zQt _)
       |false=>
        cases e5:a.fin with
        |false=>
         rw[e5]at x5
         have HE:Hid (zAt L at0 n false=(a,some (30,n))):=hIT.out.trans (by simp[e1,e2,e3,g2,e4,e5])
         go_wp2_with fail
         refine zAA (X:=none) 23 [([0,1,2],3),([4,5,6,7,8,9,10,11,12,13,14,15,16,17,18,19,20],21)] [22] (by kernel_rfl) (by kernel_rfl) rfl (fun _ _ _ _ _ h=>h) ?_
         simp only[zAK,zAC,zAE,zAD,zAB,List.getD_cons_zero,List.getD_cons_succ,List.drop_succ_cons,List.drop_nil]
         repeat (go_big_quiet_step (fail))
         refine wpQuiet_nil ?_
         go_wp2_with fail
         refine(zAN (h1.below (zQs _ _).drew) (a.next) 45 (rfl) rfl).mono ?_;rintro e ww ⟨rfl,rfl⟩
         go_wp2_with fail
         refine⟨zAJ.refl _,?_⟩
         repeat (go_big_quiet_step (fail))
         refine wpQuiet_nil ?_
         go_wp2_with fail
         refine(zAN (h1.below (zQs _ _).drew) (a.next+1) 93 (rfl) rfl).mono ?_;rintro e ww ⟨rfl,rfl⟩
         go_wp2_with fail
         refine⟨zAJ.refl _,?_⟩
         repeat (go_big_quiet_step (fail))
         refine wpQuiet_nil ?_
         go_wp2_with fail
         rw[zAO]
         rw[HE.out]
         exact zAq Tryz.results246 rfl rfl rfl his ((zQs _ _).alloc (by simp[zAP];omega) _).drew (by simp only[thV,e5]) (zCx (e:=30) (by simp[zAP]) (by simp[zAP];omega)).drew hb0 (zQt _)
        |true=>
         rw[e5]at x5
         go_wp2_with fail
         refine zAA (X:=none) 23 [([0,1,2],3),([4,5,6,7,8,9,10,11,12,13,14,15,16,17,18,19,20],21)] [22] (by kernel_rfl) (by kernel_rfl) rfl (fun _ _ _ _ _ h=>h) ?_
         simp only[zAK,zAC,zAE,zAD,zAB,List.getD_cons_zero,List.getD_cons_succ,List.drop_succ_cons,List.drop_nil]
         repeat (go_big_quiet_step (fail))
         refine wpQuiet_nil ?_
         go_wp2_with fail
         refine(zAN (h1.below (zQs _ _).drew) (a.next) 45 (rfl) rfl).mono ?_;rintro e ww ⟨rfl,rfl⟩
         go_wp2_with fail
         refine⟨zAJ.refl _,?_⟩
         repeat (go_big_quiet_step (fail))
         refine wpQuiet_nil ?_
         go_wp2_with fail
         refine(zAN (h1.below (zQs _ _).drew) (a.next+1) 93 (rfl) rfl).mono ?_;rintro e ww ⟨rfl,rfl⟩
         go_wp2_with fail
         refine⟨zAJ.refl _,?_⟩
         repeat (go_big_quiet_step (fail))
         refine wpQuiet_nil ?_
         go_wp2_with fail
         refine(zEP (h1.below (zQs _ _).drew) (a.next+1) (by omega) (by omega)).mono ?_;rintro e w2 ⟨v,rfl,hf,hb1⟩
         generalize hth2:zAp L at0 (a.next+1)=r2 at*
         obtain⟨c,fc⟩:=r2
         have HT2:=zQr hth2
         clear hth2
         simp only at hf
         have hbd:Below wx.heap.size wx w2:=Below.trans (zQs _ _).drew hb1
         go_upto_region 13 with fail
         have hy:zFS (w2.alloc (.cells #[.int .u64 c.set.w0.toNat,.int .u64 c.set.w1.toNat,.int .u64 c.set.w2.toNat,.int .u64 c.set.w3.toNat,.int .u8 (c.b:Nat),.bool c.fin,.int .i64 (c.next:Nat)] 291)) w2.heap.size c:=zQ4 w2 _
         have hby:Below w2.heap.size w2 (w2.alloc (.cells #[.int .u64 c.set.w0.toNat,.int .u64 c.set.w1.toNat,.int .u64 c.set.w2.toNat,.int .u64 c.set.w3.toNat,.int .u8 (c.b:Nat),.bool c.fin,.int .i64 (c.next:Nat)] 291)):=(zQs _ _).alloc (zQt _) _
         have hsy:w2.heap.size<(w2.alloc (.cells #[.int .u64 c.set.w0.toNat,.int .u64 c.set.w1.toNat,.int .u64 c.set.w2.toNat,.int .u64 c.set.w3.toNat,.int .u8 (c.b:Nat),.bool c.fin,.int .i64 (c.next:Nat)] 291)).heap.size:=by simp
         revert hy hby hsy
         generalize w2.alloc (.cells #[.int .u64 c.set.w0.toNat,.int .u64 c.set.w1.toNat,.int .u64 c.set.w2.toNat,.int .u64 c.set.w3.toNat,.int .u8 (c.b:Nat),.bool c.fin,.int .i64 (c.next:Nat)] 291)=wy
         intro hy hby hsy
         have hbw2:Below wx.heap.size wx wy:=hbd.trans (hby.mono hbd.size)
         have hbe2:=hb0.trans (hbw2.mono hle)
         have hz2:=HZ.out.below hbw2
         have his2:=hz2.is
         clear z0 z1 z2 z3 z4 z5 z6 f0
         obtain⟨z0,z1,z2,z3,z4,z5,z6⟩:=hz2.cells
         have f0:=zAF hz2
         clear x0 x1 x2 x3 x4 x5 x6
         obtain⟨x0,x1,x2,x3,x4,x5,x6⟩:=(HX.out.below hbw2).cells
         obtain⟨y0,y1,y2,y3,y4,y5,y6⟩:=hy.cells
         have hfy:Flt wx.heap.size wy v fc:=(by exact hf:Flt wx.heap.size w2 v fc).below hby
         have hly:=hbw2.size
         have hlz:w.heap.size<wy.heap.size:=by omega
         have hlb:b8<wy.heap.size:=by omega
         have hlr:rb<wy.heap.size:=by omega
         clear hbd hby hz2 hf hb1 hy
         generalize w2.heap.size=b9 at*
         cases fc with
         |some f=>
          have HE:Hid (zAt L at0 n false=(c,some f)):=hIT.out.trans (by simp[e1,e2,e3,g2,e4,e5])
          obtain⟨fe,fat⟩:=f
          obtain⟨fb,rfl,hfge,hflt,hfc0,hfc1⟩:=hfy
          have hfl:Hid (Flt wx.heap.size wy (.pointer (some ⟨fb,0,none⟩)) (some (fe,fat))):=⟨fb,rfl,hfge,hflt,hfc0,hfc1⟩
          clear hfc0 hfc1
          go_wp2_with fail
          rw[zAO]
          rw[HE.out]
          exact zAq Tryz.results246 rfl rfl rfl his2 (zQs _ _) rfl ((hfl.out.set hlx _ _ _ _ _ _ _).mono hle) hbe2 (zQt _)
         |none=>
          have hv:v= .pointer none:=hfy
          subst hv
          clear hfy
          obtain⟨hc1,hc2,hcb⟩:=zB0 HT2.out h1.m.u
          cases e6:c.fin with
          |false=>
           rw[e6]at y5
           have HE:Hid (zAt L at0 n false=(c,some (30,n))):=hIT.out.trans (by simp[e1,e2,e3,g2,e4,e5,e6])
           go_wp2_with fail
           rw[zAO]
           rw[HE.out]
           exact zAq Tryz.results246 rfl rfl rfl his2 ((zQs _ _).alloc (by simp[zAP];omega) _) (by simp only[thV,e6]) (zCx (e:=30) (by simp[zAP]) (by simp[zAP];omega)) hbe2 (zQt _)
          |true=>
           by_cases g3:c.b<a.b
           ·
            rw[e6]at y5
            have HE:Hid (zAt L at0 n false=(c,some (30,n))):=hIT.out.trans (by simp[e1,e2,e3,g2,e4,e5,e6,g3])
            go_wp2_with fail
            rw[zAO]
            rw[HE.out]
            exact zAq Tryz.results246 rfl rfl rfl his2 ((zQs _ _).alloc (by simp[zAP];omega) _) (by simp only[thV,e6]) (zCx (e:=30) (by simp[zAP]) (by simp[zAP];omega)) hbe2 (zQt _)
           ·
            rw[e6]at y5
            have HE:Hid (zAt L at0 n false=(⟨Cls.range a.b c.b,0,false,c.next⟩,none)):=hIT.out.trans (by simp[e1,e2,e3,g2,e4,e5,e6,g3])
            go_wp2_with fail
            refine zAA (X:=none) 8 [([0,1,2,3,5,6],4)] [7] (by kernel_rfl) (by kernel_rfl) rfl (fun _ _ _ _ _ h=>h) ?_
            simp only[zAK,zAC,zAE,zAD,zAB,List.getD_cons_zero,List.getD_cons_succ,List.drop_succ_cons,List.drop_zero]
            repeat (go_big_quiet_step (fail))
            refine wpQuiet_nil ?_
            go_wp2_with fail
            refine(zBB _ _ (by omega) (by omega) (by omega) (by omega) _).mono ?_;rintro e w3 ⟨rfl,hb3⟩
            have hkp:=zAJ.of_below (X:=none) hb3
            replace hb3:Below wy.heap.size wy w3:=Below.trans (zQs _ _).drew hb3
            have hbe3:=hbe2.trans (hb3.mono (by omega))
            have hz3:=HZ.out.below (hbw2.trans (hb3.mono hly))
            have his3:=hz3.is
            clear z0 z1 z2 z3 z4 z5 z6 f0
            obtain⟨z0,z1,z2,z3,z4,z5,z6⟩:=hz3.cells
            have f0:=zAF hz3
            clear hz3
            go_wp2_with fail
            refine⟨hkp,?_⟩
            clear hkp
            repeat (go_big_quiet_step (fail))
            refine wpQuiet_nil ?_
            go_wp2_with fail
            rw[zAO]
            rw[HE.out]
            exact zAq Tryz.results246 rfl rfl rfl his3 (zQs _ _) rfl rfl hbe3 (zQt _)
    |false=>
     by_cases g1:L.length≤n+1
     ·
      have HE:Hid (zAt L at0 n false=(a,some (32,at0))):=hIT.out.trans (by simp[e1,e2,g1])
      go_wp2_with fail
      refine(zAN h1 (n) 45 (rfl) rfl).mono ?_;rintro e ww ⟨rfl,rfl⟩
      go_wp2_with fail
      refine(zAN h1 (n+1) 93 (by omega) rfl).mono ?_;rintro e ww ⟨rfl,rfl⟩
      go_wp2_with fail
      refine zAA (X:=none) 3 [([0,1],2)] [] (by kernel_rfl) (by kernel_rfl) rfl (fun _ _ _ _ _ h=>h) ?_
      simp only[zAK,zAC,zAE,zAD,zAB,List.getD_cons_zero,List.getD_cons_succ,List.drop_succ_cons,List.drop_zero]
      repeat (go_big_quiet_step (fail))
      refine wpQuiet_nil ?_
      go_wp2_with fail
      refine(zEc (h1.below (zQs _ _).drew)).mono ?_;rintro e w2 ⟨v,rfl,hf,hb1⟩
      have hkp:=zAJ.of_below (X:=none) hb1
      replace hb1:Below wx.heap.size wx w2:=Below.trans (zQs _ _).drew hb1
      have hz1:=HZ.out.below hb1
      have his1:=hz1.is
      have hbe1:=hb0.trans (hb1.mono hle)
      have HF:=zQr (by exact hf:Flt wx.heap.size w2 v (some (32,at0)))
      obtain⟨z0,z1,z2,z3,z4,z5,z6⟩:=hz1.cells
      have f0:=zAF hz1
      clear hf hb1 hz1
      go_wp2_with fail
      refine⟨hkp,wpQuiet_nil ?_⟩
      clear hkp
      go_wp2_with fail
      rw[zAO]
      rw[HE.out]
      exact zAq Tryz.results246 rfl rfl rfl his1 (zQs _ _) rfl ((HF.out.set hlx _ _ _ _ _ _ _).mono hle) hbe1 (zQt _)
     ·
      have HE:Hid (zAt L at0 n false=(a,some (30,n))):=hIT.out.trans (by simp[e1,e2,g1])
      go_wp2_with fail
      refine(zAN h1 (n) 45 (rfl) rfl).mono ?_;rintro e ww ⟨rfl,rfl⟩
      go_wp2_with fail
      refine(zAN h1 (n+1) 93 (by omega) rfl).mono ?_;rintro e ww ⟨rfl,rfl⟩
      go_wp2_with fail
      rw[zAO]
      rw[HE.out]
      exact zAq Tryz.results246 rfl rfl rfl his ((zQs _ _).alloc (by simp[zAP];omega) _) rfl (zCx (e:=30) (by simp[zAP]) (by simp[zAP];omega)) hb0 (zQt _)
end
section
open Go.RowKit
def zPt (w:World) (B:Nat):Prop:= ∃a0 a1 a2 a3:Value,w.heap[B]?=some (.cells #[a0,a1,a2,a3] 99 (0,0))
theorem zBy.is {w:World} {B:Nat} {c:Cls} (h:zBy w B c):zPt w B:=⟨_,_,_,_,h⟩
theorem zPt.lt {w:World} {B:Nat} (h:zPt w B):B<w.heap.size:=by
 obtain⟨_,_,_,_,h⟩:=h
 exact(zQz.1 h).1
def zGR (w:World) (B:Nat) (s0 s1 s2 s3:Int):World:=
 (((w.setCell ⟨B,0,none⟩ (.int .u64 s0)).setCell ⟨B,1,none⟩ (.int .u64 s1)).setCell ⟨B,2,none⟩ (.int .u64 s2)).setCell ⟨B,3,none⟩ (.int .u64 s3)
theorem zBs (w:World) (B:Nat) (s0 s1 s2 s3:Int):
  (((w.setCell ⟨B,0,none⟩ (.int .u64 s0)).setCell ⟨B,1,none⟩ (.int .u64 s1)).setCell ⟨B,2,none⟩ (.int .u64 s2)).setCell ⟨B,3,none⟩ (.int .u64 s3)=zGR w B s0 s1 s2 s3:=rfl
theorem zNd {w:World} {B:Nat} (h:zPt w B) (s0 s1 s2 s3:Int):
  (zGR w B s0 s1 s2 s3).heap[B]?=some (.cells #[.int .u64 s0,.int .u64 s1,.int .u64 s2,.int .u64 s3] 99 (0,0)):=by
 obtain⟨a0,a1,a2,a3,h⟩:=h
 simp[zGR,World.setCell,Array.getElem?_modify,h]
theorem zCl {w:World} {B k:Nat} (h:k≤B) (s0 s1 s2 s3:Int):Below k w (zGR w B s0 s1 s2 s3):=
 ((((zQs k w).setCell (p:=⟨B,0,none⟩) h _).setCell (p:=⟨B,1,none⟩) h _).setCell (p:=⟨B,2,none⟩) h _).setCell (p:=⟨B,3,none⟩) h _
theorem zJE {w:World} {B k:Nat} (h:k≠B) (s0 s1 s2 s3:Int):(zGR w B s0 s1 s2 s3).heap[k]?=w.heap[k]?:=by
 unfold zGR
 rw[zQ1 _ _ _ _ h,zQ1 _ _ _ _ h,zQ1 _ _ _ _ h,zQ1 _ _ _ _ h]
theorem zKx {w:World} {B:Nat} (s0 s1 s2 s3:Int):(zGR w B s0 s1 s2 s3).heap.size=w.heap.size:=by simp[zGR]
theorem zMY {w1:World} {B:Nat} {s0 s1 s2 s3:Int} (h1:w1.heap[B]?=some (.cells #[.int .u64 s0,.int .u64 s1,.int .u64 s2,.int .u64 s3] 99 (0,0))):
  (loadVar 99 ⟨B,0,none⟩).run Tryz.prog w1= .ok (.agg #[.int .u64 s0,.int .u64 s1,.int .u64 s2,.int .u64 s3]) w1:=by
 have hc: ∀j,w1.cell? ⟨B,j,none⟩=(#[.int .u64 s0,.int .u64 s1,.int .u64 s2,.int .u64 s3]:Array Value)[j]?:=fun j=>zQ6 w1 B j _ _ (0,0) h1
 have c0:=hc 0
 have c1:=hc 1
 have c2:=hc 2
 have c3:=hc 3
 simp only[List.getElem?_toArray,List.getElem?_cons_zero,List.getElem?_cons_succ]at c0 c1 c2 c3
 simp[go_sem,c0,c1,c2,c3]
theorem zEx {fn:Func} {p u v:Tmp} {ty:TypeId} (h:fn.results= #[.cell p ty,.tmp u,.tmp v]) (tmps:Array Value) (P:Program) (w:World):
  (results fn tmps).run P w=
   ((asAddr (tmps.getD p undef)).run P w).andThen fun a w₁=>((loadVar ty a).run P w₁).andThen fun x w₂=> .ok (.tuple #[x,tmps.getD u undef,tmps.getD v undef]) w₂:=by
 simp only[results,h]
 simp[Sem.run_bind,Result.andThen]
def brV:Except (Nat × Nat) (Cls × Nat)→Value
 | .error (f,p)=> .tuple #[zDQ Cls.zero,.int .i64 (p:Nat),.int .i64 (f:Nat)]
 | .ok (c,i)=> .tuple #[zDQ c,.int .i64 (i:Nat),.int .i64 0]
theorem zGk {fn:Func} {p u v:Tmp} (h:fn.results= #[.cell p 99,.tmp u,.tmp v]) {a:Act} {w W w0:World} {B:Nat} {s0 s1 s2 s3:Int} {x y:Value} {r:Except (Nat × Nat) (Cls × Nat)}
  (ha:a.tmps.getD p undef= .pointer (some ⟨B,0,none⟩)) (hu:a.tmps.getD u undef=x) (hv:a.tmps.getD v undef=y) (hd:a.defers=[]) (his:zPt w B) (hW:Below (B+1) (zGR w B s0 s1 s2 s3) W)
  (hr:brV r= .tuple #[.agg #[.int .u64 s0,.int .u64 s1,.int .u64 s2,.int .u64 s3],x,y]) (hb:Below w0.heap.size w0 w) (hB:w0.heap.size≤B):
  bodyPost Tryz.prog fn (fun e w'=>e= .returned (brV r)∧Below w0.heap.size w0 w') .ret a W:=by
 refine zRQ (v:=brV r) ?_ hd ⟨rfl,(hb.trans (zCl hB _ _ _ _)).trans (hW.mono (by omega))⟩
 rw[zEx h,ha,hu,hv,hr]
 simp[asAddr,zMY ((hW.block B (Nat.lt_succ_self _)).trans (zNd his s0 s1 s2 s3)),Result.andThen]
theorem zMJ {mb mo cap:Nat} {L:List Mk} {w:World} (hm:zI4 w mb mo L) {a:Int} (at0:Nat) (ha:a=at0) (hs:signAt L at0 91=true):
  Calls Tryz.prog 230 #[.slice (some ⟨mb,mo,none⟩) L.length cap,.int .i64 a] w fun e w'=>e= .returned (brV (zA9 L at0))∧Below w.heap.size w w':=by
 subst ha
 have hL:=hm.len
 have hmb:=hm.lt
 have hat:=zES hs
 have h1:Br ((w.alloc (.cells #[.int .u64 0,.int .u64 0,.int .u64 0,.int .u64 0] 99)).alloc (.cells #[.slice (some ⟨mb,mo,none⟩) L.length cap,.int .i64 (at0:Nat)] 289)) (w.heap.size+1) mb mo cap L at0:=⟨by simp,by rw[cell_of_row _ _ 0 _ _ (0,0) (zFA (by simp))];rfl,by rw[cell_of_row _ _ 1 _ _ (0,0) (zFA (by simp))];rfl,hm.below (by repeat (first|exact zQs _ _|assumption|refine zRK ?_|refine zRI ?_ (by first|(simp;done)|(simp;omega)|omega) _|refine zRJ ?_ (by first|(simp;done)|(simp;omega)|omega) _)),by omega⟩
 have hz:zBy ((w.alloc (.cells #[.int .u64 0,.int .u64 0,.int .u64 0,.int .u64 0] 99)).alloc (.cells #[.slice (some ⟨mb,mo,none⟩) L.length cap,.int .i64 (at0:Nat)] 289)) w.heap.size Cls.zero:=(zQ5 _ _ (by simp)).trans (zQ4 _ _)
 have hb0:Below w.heap.size w ((w.alloc (.cells #[.int .u64 0,.int .u64 0,.int .u64 0,.int .u64 0] 99)).alloc (.cells #[.slice (some ⟨mb,mo,none⟩) L.length cap,.int .i64 (at0:Nat)] 289)):=(by repeat (first|exact zQs _ _|assumption|refine zRK ?_|refine zRI ?_ (by first|(simp;done)|(simp;omega)|omega) _|refine zRJ ?_ (by first|(simp;done)|(simp;omega)|omega) _))
 have hsr:w.heap.size+1<((w.alloc (.cells #[.int .u64 0,.int .u64 0,.int .u64 0,.int .u64 0] 99)).alloc (.cells #[.slice (some ⟨mb,mo,none⟩) L.length cap,.int .i64 (at0:Nat)] 289)).heap.size:=by simp
 go_enter Tryz.func230,Tryz.ntmps230
 go_upto_region 2 with fail
 revert h1 hz hb0 hsr
 generalize (w.alloc (.cells #[.int .u64 0,.int .u64 0,.int .u64 0,.int .u64 0] 99)).alloc (.cells #[.slice (some ⟨mb,mo,none⟩) L.length cap,.int .i64 (at0:Nat)] 289)=wq
 intro h1 hz hb0 hsr
 have HZ:=zQr hz
 obtain⟨z0,z1,z2,z3⟩:=hz.cells
 have f0:=zAF hz
 have hbw:=hb0
 clear hz
 cases e1:signAt L (at0+1) 94 with
 |false=>
  have hi0: ∃i0,i0=at0+1∧i0≤L.length:=⟨at0+1,rfl,by omega⟩
  obtain⟨i0,hi0,hi1⟩:=hi0
  have HB:Hid (zA9 L at0=match zA1 L at0 (L.length+2) Cls.zero i0 true with| .error f=> .error f| .ok (c,i)=> .ok (c,i+1)):=by
   simp only[Hid,zA9,e1,hi0]
   rfl
  go_wp2_with fail
  refine(zAN h1 at0 91 rfl rfl).mono ?_;rintro e ww ⟨rfl,rfl⟩
  go_wp2_with fail
  refine(zAN h1 (at0+1) 94 (by omega) rfl).mono ?_;rintro e ww ⟨rfl,rfl⟩
  go_wp2_with fail
  go_loopw [8,11] (fun i f wr=> ∃(k n:Nat) (c:Cls) (first:Bool),i= .int .i64 n∧f= .bool first∧n≤L.length∧i0≤n∧L.length+2≤k+n∧
    Hid (zA1 L at0 (L.length+2) Cls.zero i0 true=zA1 L at0 k c n first)∧zBy wr wq.heap.size c∧Below wq.heap.size wq wr) (fun i _ _=>L.length - (intOf i).toNat)
  case atStart=>exact⟨L.length+2,i0,Cls.zero,true,by rw[hi0];go_num,rfl,hi1,zQt _,by omega,rfl,zQ4 wq _,(by repeat (first|exact zQs _ _|assumption|refine zRK ?_|refine zRI ?_ (by first|(simp;done)|(simp;omega)|omega) _|refine zRJ ?_ (by first|(simp;done)|(simp;omega)|omega) _))⟩
  case round=>
   obtain⟨k,n,c,first,rfl,rfl,hn1,hn2,hk,HS,hc,hbe⟩:=hrel
   have h2:=h1.below hbe
   have hz2:=HZ.out.below hbe
   have hls:=hb0.size
   clear z0 z1 z2 z3 f0
   obtain⟨z0,z1,z2,z3⟩:=hz2.cells
   have f0:=zAF hz2
   obtain⟨q0,q1,q2,q3⟩:=hc.cells
   have g0:=zAF hc
   have hcl:=hc.lt
   have HC:=zQr hc
   have HZX:=zQr hz2
   clear hc hz2
   cases first with
   |true=>
    go_wp2_with fail
    refine(zFd h2 n rfl (by omega) true).mono ?_;rintro e w2 ⟨v,rfl,hf,hb1⟩
    obtain⟨kk,rfl⟩: ∃m,k=m+1:=⟨k - 1,by omega⟩
    generalize hit:zAt L at0 n true=r at*
    obtain⟨a,fa⟩:=r
    have HT:=zQr hit
    clear hit
    simp only at hf
    go_upto_region 13 with fail
    have hx:zFS (w2.alloc (.cells #[.int .u64 a.set.w0.toNat,.int .u64 a.set.w1.toNat,.int .u64 a.set.w2.toNat,.int .u64 a.set.w3.toNat,.int .u8 (a.b:Nat),.bool a.fin,.int .i64 (a.next:Nat)] 291)) w2.heap.size a:=zQ4 w2 _
    have hbx:Below w2.heap.size w2 (w2.alloc (.cells #[.int .u64 a.set.w0.toNat,.int .u64 a.set.w1.toNat,.int .u64 a.set.w2.toNat,.int .u64 a.set.w3.toNat,.int .u8 (a.b:Nat),.bool a.fin,.int .i64 (a.next:Nat)] 291)):=(zQs _ _).alloc (zQt _) _
    have hsx:w2.heap.size<(w2.alloc (.cells #[.int .u64 a.set.w0.toNat,.int .u64 a.set.w1.toNat,.int .u64 a.set.w2.toNat,.int .u64 a.set.w3.toNat,.int .u8 (a.b:Nat),.bool a.fin,.int .i64 (a.next:Nat)] 291)).heap.size:=by simp
    revert hx hbx hsx
    generalize w2.alloc (.cells #[.int .u64 a.set.w0.toNat,.int .u64 a.set.w1.toNat,.int .u64 a.set.w2.toNat,.int .u64 a.set.w3.toNat,.int .u8 (a.b:Nat),.bool a.fin,.int .i64 (a.next:Nat)] 291)=w3
    intro hx hbx hsx
    have hb3:Below wr.heap.size wr w3:=hb1.trans (hbx.mono hb1.size)
    have hfx:=hf.below hbx
    have hbe3:=hbe.trans (hb3.mono hbe.size)
    have hc3:=HC.out.below hb3
    have hz3:=HZ.out.below hbe3
    clear z0 z1 z2 z3 f0 q0 q1 q2 q3 g0
    obtain⟨z0,z1,z2,z3⟩:=hz3.cells
    have f0:=zAF hz3
    have his3:=hz3.is
    obtain⟨q0,q1,q2,q3⟩:=hc3.cells
    have g0:=zAF hc3
    obtain⟨x0,x1,x2,x3,x4,x5,x6⟩:=hx.cells
    have hl3:=hb3.size
    have hlx:=hbe.size
    have hls:=hb0.size
    have h4:w.heap.size<w3.heap.size:=by omega
    have h5:wq.heap.size<w3.heap.size:=by omega
    have HC3:=zQr hc3
    have HZ3:=zQr hz3
    have hl2:=hb1.size
    clear hc3 hz3 hf hbx
    generalize w2.heap.size=b9 at*
    cases fa with
    |some f=>
     obtain⟨fe,fp⟩:=f
     have HE:Hid (zA9 L at0= .error (fe,fp)):=by
      simp only[Hid]
      rw[HB.out,HS.out]
      simp[zA1,HT.out]
     obtain⟨fb,rfl,hfge,hflt,hfc0,hfc1⟩:=hfx
     have hne:w.heap.size≠fb:=by omega
     go_wp2_with fail
     refine zAA (X:=(some w.heap.size)) 12 [([0,1,2,3,4,5,6,7,8],9)] [10,11] (by kernel_rfl) (by kernel_rfl) rfl (fun _ _ _ _ _ h=>h) ?_
     simp only[zAK,zAC,zAE,zAD,zAB,List.getD_cons_zero,List.getD_cons_succ,List.drop_succ_cons,List.drop_nil]
     repeat (go_big_quiet_step (fail))
     refine wpQuiet_nil ?_
     go_wp2_with fail
     refine⟨(((zAJ.of_setCell _).trans (zAJ.of_setCell _)).trans (zAJ.of_setCell _)).trans (zAJ.of_setCell _),?_⟩
     repeat (go_big_quiet_step (fail))
     refine wpQuiet_nil ?_
     go_wp2_with fail
     rw[zBs]
     rw[HE.out]
     exact zGk Tryz.results230 rfl rfl rfl rfl his3 (zQs _ _).drew rfl (hbw.trans (hbe3.mono hls)) (zQt _)
    |none=>
     have hv:v= .pointer none:=hfx
     subst hv
     clear hfx
     obtain⟨hn3,hn4⟩:=zCt HT.out h2.m.u
     have HS2:Hid (zA1 L at0 (L.length+2) Cls.zero i0 true=zA1 L at0 kk (c.or a.set) a.next false):=by
      simp only[Hid]
      rw[HS.out]
      simp[zA1,HT.out]
     have hne:wq.heap.size≠b9:=by omega
     go_wp2_with fail
     refine zAA (X:=(some wq.heap.size)) 8 [([1,2,4,5],0),([],3),([],6)] [7] (by kernel_rfl) (by kernel_rfl) rfl (fun _ _ _ _ _ h=>h) ?_
     simp only[zAK,zAC,zAE,zAD,zAB,List.getD_cons_zero,List.getD_cons_succ,List.drop_succ_cons,List.drop_nil]
     repeat (go_big_quiet_step (fail))
     refine wpQuiet_nil ?_
     go_wp2_with fail
     refine⟨zAJ.refl _,?_⟩
     repeat (go_big_quiet_step (fail))
     refine wpQuiet_nil ?_
     go_wp2_with fail
     refine(zCZ c a.set _).mono ?_;rintro e w4 ⟨rfl,hb4⟩
     have hkp:=zAJ.of_below (X:=some wq.heap.size) hb4
     replace hb4:Below w3.heap.size w3 w4:=Below.trans (zQs _ _).drew hb4
     have hc4:=HC3.out.below hb4
     clear q0 q1 q2 q3 g0
     obtain⟨q0,q1,q2,q3⟩:=hc4.cells
     have g0:=zAF hc4
     have HC4:=zQr hc4
     clear hc4
     go_wp2_with fail
     refine⟨hkp,?_⟩
     clear hkp
     repeat (go_big_quiet_step (fail))
     refine wpQuiet_nil ?_
     go_wp2_with fail
     refine⟨(((zAJ.of_setCell _).trans (zAJ.of_setCell _)).trans (zAJ.of_setCell _)).trans (zAJ.of_setCell _),?_⟩
     repeat (go_big_quiet_step (fail))
     refine wpQuiet_nil ?_
     go_wp2_with fail
     go_roundw
     case rel=>exact⟨kk,a.next,c.or a.set,false,rfl,rfl,hn4,by omega,by omega,HS2,zCf HC4.out (c.or a.set),(hbe3.trans (hb4.mono (by omega))).trans (zB1 (zQt _) _)⟩
     case measure=>simp[intOf];omega
   |false=>
    cases e2:signAt L n 93 with
    |false=>
     go_wp2_with fail
     refine(zAN h2 n 93 rfl rfl).mono ?_;rintro e ww ⟨rfl,rfl⟩
     go_wp2_with fail
     refine(zFd h2 n rfl (by omega) false).mono ?_;rintro e w2 ⟨v,rfl,hf,hb1⟩
     obtain⟨kk,rfl⟩: ∃m,k=m+1:=⟨k - 1,by omega⟩
     generalize hit:zAt L at0 n false=r at*
     obtain⟨a,fa⟩:=r
     have HT:=zQr hit
     clear hit
     simp only at hf
     go_upto_region 13 with fail
     have hx:zFS (w2.alloc (.cells #[.int .u64 a.set.w0.toNat,.int .u64 a.set.w1.toNat,.int .u64 a.set.w2.toNat,.int .u64 a.set.w3.toNat,.int .u8 (a.b:Nat),.bool a.fin,.int .i64 (a.next:Nat)] 291)) w2.heap.size a:=zQ4 w2 _
     have hbx:Below w2.heap.size w2 (w2.alloc (.cells #[.int .u64 a.set.w0.toNat,.int .u64 a.set.w1.toNat,.int .u64 a.set.w2.toNat,.int .u64 a.set.w3.toNat,.int .u8 (a.b:Nat),.bool a.fin,.int .i64 (a.next:Nat)] 291)):=(zQs _ _).alloc (zQt _) _
     have hsx:w2.heap.size<(w2.alloc (.cells #[.int .u64 a.set.w0.toNat,.int .u64 a.set.w1.toNat,.int .u64 a.set.w2.toNat,.int .u64 a.set.w3.toNat,.int .u8 (a.b:Nat),.bool a.fin,.int .i64 (a.next:Nat)] 291)).heap.size:=by simp
     revert hx hbx hsx
     generalize w2.alloc (.cells #[.int .u64 a.set.w0.toNat,.int .u64 a.set.w1.toNat,.int .u64 a.set.w2.toNat,.int .u64 a.set.w3.toNat,.int .u8 (a.b:Nat),.bool a.fin,.int .i64 (a.next:Nat)] 291)=w3
     intro hx hbx hsx
     have hb3:Below wr.heap.size wr w3:=hb1.trans (hbx.mono hb1.size)
     have hfx:=hf.below hbx
     have hbe3:=hbe.trans (hb3.mono hbe.size)
     have hc3:=HC.out.below hb3
     have hz3:=HZ.out.below hbe3
     clear z0 z1 z2 z3 f0 q0 q1 q2 q3 g0
     obtain⟨z0,z1,z2,z3⟩:=hz3.cells
     have f0:=zAF hz3
     have his3:=hz3.is
     obtain⟨q0,q1,q2,q3⟩:=hc3.cells
     have g0:=zAF hc3
     obtain⟨x0,x1,x2,x3,x4,x5,x6⟩:=hx.cells
     have hl3:=hb3.size
     have hlx:=hbe.size
     have hls:=hb0.size
     have h4:w.heap.size<w3.heap.size:=by omega
     have h5:wq.heap.size<w3.heap.size:=by omega
     have HC3:=zQr hc3
     have HZ3:=zQr hz3
     have hl2:=hb1.size
     clear hc3 hz3 hf hbx
     generalize w2.heap.size=b9 at*
     cases fa with
     |some f=>
      obtain⟨fe,fp⟩:=f
      have HE:Hid (zA9 L at0= .error (fe,fp)):=by
       simp only[Hid]
       rw[HB.out,HS.out]
       simp[zA1,HT.out,e2]
      obtain⟨fb,rfl,hfge,hflt,hfc0,hfc1⟩:=hfx
      have hne:w.heap.size≠fb:=by omega
      go_wp2_with fail
      refine zAA (X:=(some w.heap.size)) 12 [([0,1,2,3,4,5,6,7,8],9)] [10,11] (by kernel_rfl) (by kernel_rfl) rfl (fun _ _ _ _ _ h=>h) ?_
      simp only[zAK,zAC,zAE,zAD,zAB,List.getD_cons_zero,List.getD_cons_succ,List.drop_succ_cons,List.drop_nil]
      repeat (go_big_quiet_step (fail))
      refine wpQuiet_nil ?_
      go_wp2_with fail
      refine⟨(((zAJ.of_setCell _).trans (zAJ.of_setCell _)).trans (zAJ.of_setCell _)).trans (zAJ.of_setCell _),?_⟩
      repeat (go_big_quiet_step (fail))
      refine wpQuiet_nil ?_
      go_wp2_with fail
      rw[zBs]
      rw[HE.out]
      exact zGk Tryz.results230 rfl rfl rfl rfl his3 (zQs _ _).drew rfl (hbw.trans (hbe3.mono hls)) (zQt _)
     |none=>
      have hv:v= .pointer none:=hfx
      subst hv
      clear hfx
      obtain⟨hn3,hn4⟩:=zCt HT.out h2.m.u
      have HS2:Hid (zA1 L at0 (L.length+2) Cls.zero i0 true=zA1 L at0 kk (c.or a.set) a.next false):=by
       simp only[Hid]
       rw[HS.out]
       simp[zA1,HT.out,e2]
      have hne:wq.heap.size≠b9:=by omega
      go_wp2_with fail
      refine zAA (X:=(some wq.heap.size)) 8 [([1,2,4,5],0),([],3),([],6)] [7] (by kernel_rfl) (by kernel_rfl) rfl (fun _ _ _ _ _ h=>h) ?_
      simp only[zAK,zAC,zAE,zAD,zAB,List.getD_cons_zero,List.getD_cons_succ,List.drop_succ_cons,List.drop_nil]
      repeat (go_big_quiet_step (fail))
      refine wpQuiet_nil ?_
      go_wp2_with fail
      refine⟨zAJ.refl _,?_⟩
      repeat (go_big_quiet_step (fail))
      refine wpQuiet_nil ?_
      go_wp2_with fail
      refine(zCZ c a.set _).mono ?_;rintro e w4 ⟨rfl,hb4⟩
      have hkp:=zAJ.of_below (X:=some wq.heap.size) hb4
      replace hb4:Below w3.heap.size w3 w4:=Below.trans (zQs _ _).drew hb4
      have hc4:=HC3.out.below hb4
      clear q0 q1 q2 q3 g0
      obtain⟨q0,q1,q2,q3⟩:=hc4.cells
      have g0:=zAF hc4
      have HC4:=zQr hc4
      clear hc4
      go_wp2_with fail
      refine⟨hkp,?_⟩
      clear hkp
      repeat (go_big_quiet_step (fail))
      refine wpQuiet_nil ?_
      go_wp2_with fail
      refine⟨(((zAJ.of_setCell _).trans (zAJ.of_setCell _)).trans (zAJ.of_setCell _)).trans (zAJ.of_setCell _),?_⟩
      repeat (go_big_quiet_step (fail))
      refine wpQuiet_nil ?_
      go_wp2_with fail
      go_roundw
      case rel=>exact⟨kk,a.next,c.or a.set,false,rfl,rfl,hn4,by omega,by omega,HS2,zCf HC4.out (c.or a.set),(hbe3.trans (hb4.mono (by omega))).trans (zB1 (zQt _) _)⟩
      case measure=>simp[intOf];omega
    |true=>
     go_wp2_with fail
     refine(zAN h2 n 93 rfl rfl).mono ?_;rintro e ww ⟨rfl,rfl⟩
     go_wp2_with fail
     have HE:Hid (zA9 L at0= .ok (c,n+1)):=by
      obtain⟨kk,rfl⟩: ∃m,k=m+1:=⟨k - 1,by omega⟩
      simp only[Hid]
      rw[HB.out,HS.out]
      simp[zA1,e2]
     go_wp2_with fail
     rw[zBs]
     rw[HE.out]
     exact zGk Tryz.results230 rfl rfl rfl rfl HZX.out.is (zQs _ _) (by simp[brV]) (hbw.trans (hbe.mono hls)) (zQt _)
 |true=>
  have hi0: ∃i0,i0=at0+2∧i0≤L.length:=⟨at0+2,rfl,by have:=zES e1;omega⟩
  obtain⟨i0,hi0,hi1⟩:=hi0
  have HB:Hid (zA9 L at0=match zA1 L at0 (L.length+2) Cls.zero i0 true with| .error f=> .error f| .ok (c,i)=> .ok (c.not,i+1)):=by
   simp only[Hid,zA9,e1,hi0]
   rfl
  go_wp2_with fail
  refine(zAN h1 at0 91 rfl rfl).mono ?_;rintro e ww ⟨rfl,rfl⟩
  go_wp2_with fail
  refine(zAN h1 (at0+1) 94 (by omega) rfl).mono ?_;rintro e ww ⟨rfl,rfl⟩
  go_wp2_with fail
  go_loopw [8,11] (fun i f wr=> ∃(k n:Nat) (c:Cls) (first:Bool),i= .int .i64 n∧f= .bool first∧n≤L.length∧i0≤n∧L.length+2≤k+n∧
    Hid (zA1 L at0 (L.length+2) Cls.zero i0 true=zA1 L at0 k c n first)∧zBy wr wq.heap.size c∧Below wq.heap.size wq wr) (fun i _ _=>L.length - (intOf i).toNat)
  case atStart=>exact⟨L.length+2,i0,Cls.zero,true,by rw[hi0];go_num,rfl,hi1,zQt _,by omega,rfl,zQ4 wq _,(by repeat (first|exact zQs _ _|assumption|refine zRK ?_|refine zRI ?_ (by first|(simp;done)|(simp;omega)|omega) _|refine zRJ ?_ (by first|(simp;done)|(simp;omega)|omega) _))⟩
  case round=>
   obtain⟨k,n,c,first,rfl,rfl,hn1,hn2,hk,HS,hc,hbe⟩:=hrel
   have h2:=h1.below hbe
   have hz2:=HZ.out.below hbe
   have hls:=hb0.size
   clear z0 z1 z2 z3 f0
   obtain⟨z0,z1,z2,z3⟩:=hz2.cells
   have f0:=zAF hz2
   obtain⟨q0,q1,q2,q3⟩:=hc.cells
   have g0:=zAF hc
   have hcl:=hc.lt
   have HC:=zQr hc
   have HZX:=zQr hz2
   clear hc hz2
   cases first with
   |true=>
    go_wp2_with fail
    refine(zFd h2 n rfl (by omega) true).mono ?_;rintro e w2 ⟨v,rfl,hf,hb1⟩
    obtain⟨kk,rfl⟩: ∃m,k=m+1:=⟨k - 1,by omega⟩
    generalize hit:zAt L at0 n true=r at*
    obtain⟨a,fa⟩:=r
    have HT:=zQr hit
    clear hit
    simp only at hf
    go_upto_region 13 with fail
    have hx:zFS (w2.alloc (.cells #[.int .u64 a.set.w0.toNat,.int .u64 a.set.w1.toNat,.int .u64 a.set.w2.toNat,.int .u64 a.set.w3.toNat,.int .u8 (a.b:Nat),.bool a.fin,.int .i64 (a.next:Nat)] 291)) w2.heap.size a:=zQ4 w2 _
    have hbx:Below w2.heap.size w2 (w2.alloc (.cells #[.int .u64 a.set.w0.toNat,.int .u64 a.set.w1.toNat,.int .u64 a.set.w2.toNat,.int .u64 a.set.w3.toNat,.int .u8 (a.b:Nat),.bool a.fin,.int .i64 (a.next:Nat)] 291)):=(zQs _ _).alloc (zQt _) _
    have hsx:w2.heap.size<(w2.alloc (.cells #[.int .u64 a.set.w0.toNat,.int .u64 a.set.w1.toNat,.int .u64 a.set.w2.toNat,.int .u64 a.set.w3.toNat,.int .u8 (a.b:Nat),.bool a.fin,.int .i64 (a.next:Nat)] 291)).heap.size:=by simp
    revert hx hbx hsx
    generalize w2.alloc (.cells #[.int .u64 a.set.w0.toNat,.int .u64 a.set.w1.toNat,.int .u64 a.set.w2.toNat,.int .u64 a.set.w3.toNat,.int .u8 (a.b:Nat),.bool a.fin,.int .i64 (a.next:Nat)] 291)=w3
    intro hx hbx hsx
    have hb3:Below wr.heap.size wr w3:=hb1.trans (hbx.mono hb1.size)
    have hfx:=hf.below hbx
    have hbe3:=hbe.trans (hb3.mono hbe.size)
    have hc3:=HC.out.below hb3
    have hz3:=HZ.out.below hbe3
    clear z0 z1 z2 z3 f0 q0 q1 q2 q3 g0
    obtain⟨z0,z1,z2,z3⟩:=hz3.cells
    have f0:=zAF hz3
    have his3:=hz3.is
    obtain⟨q0,q1,q2,q3⟩:=hc3.cells
    have g0:=zAF hc3
    obtain⟨x0,x1,x2,x3,x4,x5,x6⟩:=hx.cells
    have hl3:=hb3.size
    have hlx:=hbe.size
    have hls:=hb0.size
    have h4:w.heap.size<w3.heap.size:=by omega
    have h5:wq.heap.size<w3.heap.size:=by omega
    have HC3:=zQr hc3
    have HZ3:=zQr hz3
    have hl2:=hb1.size
    clear hc3 hz3 hf hbx
    generalize w2.heap.size=b9 at*
    cases fa with
    |some f=>
     obtain⟨fe,fp⟩:=f
     have HE:Hid (zA9 L at0= .error (fe,fp)):=by
      simp only[Hid]
      rw[HB.out,HS.out]
      simp[zA1,HT.out]
     obtain⟨fb,rfl,hfge,hflt,hfc0,hfc1⟩:=hfx
     have hne:w.heap.size≠fb:=by omega
     go_wp2_with fail
     refine zAA (X:=(some w.heap.size)) 12 [([0,1,2,3,4,5,6,7,8],9)] [10,11] (by kernel_rfl) (by kernel_rfl) rfl (fun _ _ _ _ _ h=>h) ?_
     simp only[zAK,zAC,zAE,zAD,zAB,List.getD_cons_zero,List.getD_cons_succ,List.drop_succ_cons,List.drop_nil]
     repeat (go_big_quiet_step (fail))
     refine wpQuiet_nil ?_
     go_wp2_with fail
     refine⟨(((zAJ.of_setCell _).trans (zAJ.of_setCell _)).trans (zAJ.of_setCell _)).trans (zAJ.of_setCell _),?_⟩
     repeat (go_big_quiet_step (fail))
     refine wpQuiet_nil ?_
     go_wp2_with fail
     rw[zBs]
     rw[HE.out]
     exact zGk Tryz.results230 rfl rfl rfl rfl his3 (zQs _ _).drew rfl (hbw.trans (hbe3.mono hls)) (zQt _)
    |none=>
     have hv:v= .pointer none:=hfx
     subst hv
     clear hfx
     obtain⟨hn3,hn4⟩:=zCt HT.out h2.m.u
     have HS2:Hid (zA1 L at0 (L.length+2) Cls.zero i0 true=zA1 L at0 kk (c.or a.set) a.next false):=by
      simp only[Hid]
      rw[HS.out]
      simp[zA1,HT.out]
     have hne:wq.heap.size≠b9:=by omega
     go_wp2_with fail
     refine zAA (X:=(some wq.heap.size)) 8 [([1,2,4,5],0),([],3),([],6)] [7] (by kernel_rfl) (by kernel_rfl) rfl (fun _ _ _ _ _ h=>h) ?_
     simp only[zAK,zAC,zAE,zAD,zAB,List.getD_cons_zero,List.getD_cons_succ,List.drop_succ_cons,List.drop_nil]
     repeat (go_big_quiet_step (fail))
     refine wpQuiet_nil ?_
     go_wp2_with fail
     refine⟨zAJ.refl _,?_⟩
     repeat (go_big_quiet_step (fail))
     refine wpQuiet_nil ?_
     go_wp2_with fail
     refine(zCZ c a.set _).mono ?_;rintro e w4 ⟨rfl,hb4⟩
     have hkp:=zAJ.of_below (X:=some wq.heap.size) hb4
     replace hb4:Below w3.heap.size w3 w4:=Below.trans (zQs _ _).drew hb4
     have hc4:=HC3.out.below hb4
     clear q0 q1 q2 q3 g0
     obtain⟨q0,q1,q2,q3⟩:=hc4.cells
     have g0:=zAF hc4
     have HC4:=zQr hc4
     clear hc4
     go_wp2_with fail
     refine⟨hkp,?_⟩
     clear hkp
     repeat (go_big_quiet_step (fail))
     refine wpQuiet_nil ?_
     go_wp2_with fail
     refine⟨(((zAJ.of_setCell _).trans (zAJ.of_setCell _)).trans (zAJ.of_setCell _)).trans (zAJ.of_setCell _),?_⟩
     repeat (go_big_quiet_step (fail))
     refine wpQuiet_nil ?_
     go_wp2_with fail
     go_roundw
     case rel=>exact⟨kk,a.next,c.or a.set,false,rfl,rfl,hn4,by omega,by omega,HS2,zCf HC4.out (c.or a.set),(hbe3.trans (hb4.mono (by omega))).trans (zB1 (zQt _) _)⟩
     case measure=>simp[intOf];omega
   |false=>
    cases e2:signAt L n 93 with
    |false=>
     go_wp2_with fail
     refine(zAN h2 n 93 rfl rfl).mono ?_;rintro e ww ⟨rfl,rfl⟩
     go_wp2_with fail
     refine(zFd h2 n rfl (by omega) false).mono ?_;rintro e w2 ⟨v,rfl,hf,hb1⟩
     obtain⟨kk,rfl⟩: ∃m,k=m+1:=⟨k - 1,by omega⟩
     generalize hit:zAt L at0 n false=r at*
     obtain⟨a,fa⟩:=r
     have HT:=zQr hit
     clear hit
     simp only at hf
     go_upto_region 13 with fail
     have hx:zFS (w2.alloc (.cells #[.int .u64 a.set.w0.toNat,.int .u64 a.set.w1.toNat,.int .u64 a.set.w2.toNat,.int .u64 a.set.w3.toNat,.int .u8 (a.b:Nat),.bool a.fin,.int .i64 (a.next:Nat)] 291)) w2.heap.size a:=zQ4 w2 _
     have hbx:Below w2.heap.size w2 (w2.alloc (.cells #[.int .u64 a.set.w0.toNat,.int .u64 a.set.w1.toNat,.int .u64 a.set.w2.toNat,.int .u64 a.set.w3.toNat,.int .u8 (a.b:Nat),.bool a.fin,.int .i64 (a.next:Nat)] 291)):=(zQs _ _).alloc (zQt _) _
     have hsx:w2.heap.size<(w2.alloc (.cells #[.int .u64 a.set.w0.toNat,.int .u64 a.set.w1.toNat,.int .u64 a.set.w2.toNat,.int .u64 a.set.w3.toNat,.int .u8 (a.b:Nat),.bool a.fin,.int .i64 (a.next:Nat)] 291)).heap.size:=by simp
     revert hx hbx hsx
     generalize w2.alloc (.cells #[.int .u64 a.set.w0.toNat,.int .u64 a.set.w1.toNat,.int .u64 a.set.w2.toNat,.int .u64 a.set.w3.toNat,.int .u8 (a.b:Nat),.bool a.fin,.int .i64 (a.next:Nat)] 291)=w3
     intro hx hbx hsx
     have hb3:Below wr.heap.size wr w3:=hb1.trans (hbx.mono hb1.size)
     have hfx:=hf.below hbx
     have hbe3:=hbe.trans (hb3.mono hbe.size)
     have hc3:=HC.out.below hb3
     have hz3:=HZ.out.below hbe3
     clear z0 z1 z2 z3 f0 q0 q1 q2 q3 g0
     obtain⟨z0,z1,z2,z3⟩:=hz3.cells
     have f0:=zAF hz3
     have his3:=hz3.is
     obtain⟨q0,q1,q2,q3⟩:=hc3.cells
     have g0:=zAF hc3
     obtain⟨x0,x1,x2,x3,x4,x5,x6⟩:=hx.cells
     have hl3:=hb3.size
     have hlx:=hbe.size
     have hls:=hb0.size
     have h4:w.heap.size<w3.heap.size:=by omega
     have h5:wq.heap.size<w3.heap.size:=by omega
     have HC3:=zQr hc3
     have HZ3:=zQr hz3
     have hl2:=hb1.size
     clear hc3 hz3 hf hbx
     generalize w2.heap.size=b9 at*
     cases fa with
     |some f=>
      obtain⟨fe,fp⟩:=f
      have HE:Hid (zA9 L at0= .error (fe,fp)):=by
       simp only[Hid]
       rw[HB.out,HS.out]
       simp[zA1,HT.out,e2]
      obtain⟨fb,rfl,hfge,hflt,hfc0,hfc1⟩:=hfx
      have hne:w.heap.size≠fb:=by omega
      go_wp2_with fail
      refine zAA (X:=(some w.heap.size)) 12 [([0,1,2,3,4,5,6,7,8],9)] [10,11] (by kernel_rfl) (by kernel_rfl) rfl (fun _ _ _ _ _ h=>h) ?_
      simp only[zAK,zAC,zAE,zAD,zAB,List.getD_cons_zero,List.getD_cons_succ,List.drop_succ_cons,List.drop_nil]
      repeat (go_big_quiet_step (fail))
      refine wpQuiet_nil ?_
      go_wp2_with fail
      refine⟨(((zAJ.of_setCell _).trans (zAJ.of_setCell _)).trans (zAJ.of_setCell _)).trans (zAJ.of_setCell _),?_⟩
      repeat (go_big_quiet_step (fail))
      refine wpQuiet_nil ?_
      go_wp2_with fail
      rw[zBs]
      rw[HE.out]
      exact zGk Tryz.results230 rfl rfl rfl rfl his3 (zQs _ _).drew rfl (hbw.trans (hbe3.mono hls)) (zQt _)
     |none=>
      have hv:v= .pointer none:=hfx
      subst hv
      clear hfx
      obtain⟨hn3,hn4⟩:=zCt HT.out h2.m.u
      have HS2:Hid (zA1 L at0 (L.length+2) Cls.zero i0 true=zA1 L at0 kk (c.or a.set) a.next false):=by
       simp only[Hid]
       rw[HS.out]
       simp[zA1,HT.out,e2]
      have hne:wq.heap.size≠b9:=by omega
      go_wp2_with fail
      refine zAA (X:=(some wq.heap.size)) 8 [([1,2,4,5],0),([],3),([],6)] [7] (by kernel_rfl) (by kernel_rfl) rfl (fun _ _ _ _ _ h=>h) ?_
      simp only[zAK,zAC,zAE,zAD,zAB,List.getD_cons_zero,List.getD_cons_succ,List.drop_succ_cons,List.drop_nil]
      repeat (go_big_quiet_step (fail))
      refine wpQuiet_nil ?_
      go_wp2_with fail
      refine⟨zAJ.refl _,?_⟩
      repeat (go_big_quiet_step (fail))
      refine wpQuiet_nil ?_
      go_wp2_with fail
      refine(zCZ c a.set _).mono ?_;rintro e w4 ⟨rfl,hb4⟩
      have hkp:=zAJ.of_below (X:=some wq.heap.size) hb4
      replace hb4:Below w3.heap.size w3 w4:=Below.trans (zQs _ _).drew hb4
      have hc4:=HC3.out.below hb4
      clear q0 q1 q2 q3 g0
      obtain⟨q0,q1,q2,q3⟩:=hc4.cells
      have g0:=zAF hc4
      have HC4:=zQr hc4
      clear hc4
      go_wp2_with fail
      refine⟨hkp,?_⟩
      clear hkp
      repeat (go_big_quiet_step (fail))
      refine wpQuiet_nil ?_
      go_wp2_with fail
      refine⟨(((zAJ.of_setCell _).trans (zAJ.of_setCell _)).trans (zAJ.of_setCell _)).trans (zAJ.of_setCell _),?_⟩
      repeat (go_big_quiet_step (fail))
      refine wpQuiet_nil ?_
      go_wp2_with fail
      go_roundw
      case rel=>exact⟨kk,a.next,c.or a.set,false,rfl,rfl,hn4,by omega,by omega,HS2,zCf HC4.out (c.or a.set),(hbe3.trans (hb4.mono (by omega))).trans (zB1 (zQt _) _)⟩
      case measure=>simp[intOf];omega
    |true=>
     go_wp2_with fail
     refine(zAN h2 n 93 rfl rfl).mono ?_;rintro e ww ⟨rfl,rfl⟩
     go_wp2_with fail
     have HE:Hid (zA9 L at0= .ok (c.not,n+1)):=by
      obtain⟨kk,rfl⟩: ∃m,k=m+1:=⟨k - 1,by omega⟩
      simp only[Hid]
      rw[HB.out,HS.out]
      simp[zA1,e2]
     go_wp2_with fail
     refine(zE6 c _).mono ?_;rintro e w4 ⟨rfl,hb4⟩
     have hc4:=HC.out.below hb4
     have hz4:=HZX.out.below hb4
     clear z0 z1 z2 z3 f0 q0 q1 q2 q3 g0
     obtain⟨q0,q1,q2,q3⟩:=hc4.cells
     have g0:=zAF hc4
     obtain⟨z0,z1,z2,z3⟩:=hz4.cells
     have f0:=zAF hz4
     have HZ4:=zQr hz4
     have hlx:=hbe.size
     have hbe4:=hbe.trans (hb4.mono hbe.size)
     clear hz4 hc4
     go_wp2_with fail
     rw[zBs]
     rw[zBs]
     rw[HE.out]
     have hzs:zBy (zGR w4 wq.heap.size c.not.w0.toNat c.not.w1.toNat c.not.w2.toNat c.not.w3.toNat) w.heap.size Cls.zero:=(zJE (by omega) _ _ _ _).trans HZ4.out
     exact zGk Tryz.results230 rfl rfl rfl rfl hzs.is (zQs _ _) (by simp[brV]) ((hbw.trans (hbe4.mono hls)).trans (zCl hls _ _ _ _)) (zQt _)
end
end Go.Proofs.YtmaagpbjahjmhaaGreatDoor
