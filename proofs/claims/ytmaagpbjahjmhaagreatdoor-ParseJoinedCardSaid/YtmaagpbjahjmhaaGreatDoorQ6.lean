/- Parts: Own Ra Wd We Wf Wg Wh. -/
import Derived.Test.YtmaagpbjahjmhaaGreatDoorQ5
import Derived.Test.YtmaagpbjahjmhaaGreatDoorQ2
import Derived.Maps.AppendAt
import Derived.Laws.AppendOwnNone
import Derived.Laws.BytesArg
set_option maxHeartbeats 6400000
set_option maxRecDepth 100000
namespace Go.Proofs.YtmaagpbjahjmhaaGreatDoor
section
open Go.RowKit
structure ElT (P:Program) (t e:TypeId) (size bytes:Nat) (z:Value):Prop where
 ht:P.underlying t=some (.slice e)
 hi:(P.info? e).map (fun i=>(i.zero,i.size,i.bytes))=some (some z,size,bytes)
 hzs:z.cells.size=size
 hsz:0<size
def Src (w:World) (v:Value) (m:Nat) (news:List Value):Prop:=
 (v= .slice none 0 0∧m=0∧news=[])∨ ∃a c,v= .slice (some a) m c∧ ∀j u,news[j]?=some u→w.cell? (a.add j)=some u
theorem Src.nil (w:World):Src w (.slice none 0 0) 0 []:= .inl ⟨rfl,rfl,rfl⟩
theorem Src.own {w:World} {base e size n:Nat} {v:Value} {xs:List Value} (h:w.ownsRow base e size v n xs):Src w v n xs:=by
 rcases h.2 with ⟨rfl,rfl⟩|⟨g,cap,cur,rfl,hb,hg,rest⟩
 ·refine .inl ⟨rfl,rfl,List.eq_nil_of_length_eq_zero (by simpa using h.1)⟩
 ·exact .inr ⟨_,_,rfl,h.cells rfl⟩
theorem Src.new (w:World) (cs:List Value) (e m c:Nat):Src (w.alloc (.cells cs.toArray e)) (.slice (some ⟨w.heap.size,0,none⟩) m c) m cs:=by
 refine .inr ⟨_,_,rfl,fun j u hu=>?_⟩
 have hadd:(⟨w.heap.size,0,none⟩:Addr).add j=⟨w.heap.size,j,none⟩:=by unfold Addr.add;split<;>simp_all
 rw[hadd,cell_of_row _ _ j _ e (0,0) (heap_alloc_new w _)]
 simpa using hu
theorem zAa {P:Program} {w:World} {ops:Array Oper} {rest:List Oper} {o:Oper} {a:Act} {Q:Exit→Act→World→Prop} {t e:TypeId} {size bytes:Nat} {z:Value} (E:ElT P t e size bytes z)
  (hgd:o.guard=none) (s x:Operand) (ho:o.op= .call { callee:= .builtin .append,args:= #[s,x],argTypes:= #[t,t] })
  (base:Nat) {v sv:Value} {n m:Nat} {xs news:List Value} (hs:a.eval s=v) (hown:w.ownsRow base e size v n xs) (hx:a.eval x=sv) (hsrc:Src w sv m news)
  (hl:news.length=m*size) (h1: ∀u∈news,u.oneCell'=true) (h63:n+m≤maxLen) (hbytes:(n+m)*bytes≤140737488355328) (hbase:base≤w.heap.size)
  (h: ∀v' w',w'.ownsRow base e size v' (n+m) (xs++news)→w.grownBy w' v.ownBlock→(v'.ownBlock=v.ownBlock∨v'.ownBlock=some w.heap.size)→wpList P ops Q rest (a.put o.dst v') w'):
  wpList P ops Q (o::rest) a w:=by
 obtain⟨i,hi,hz0,hz1,hz2⟩:=info_parts E.hi
 rcases hsrc with ⟨rfl,rfl,rfl⟩|⟨ad,c,rfl,hc⟩
 ·refine wpList_append_own_none hgd s x t ho base e i size E.ht hi v n xs hs hown hx ?_
  have:=h v w (by simpa using hown) (World.grownBy.refl w _) (.inl rfl)
  exact this
 ·exact wpList_append_own_at w hgd s x t ho base e i z size bytes E.ht hi hz0 hz1 hz2 E.hzs E.hsz v n xs hs hown ad m c news hx hl hc h1 h63 hbytes hbase (fun v' w' h2 h3 _ h5=>h v' w' h2 h3 h5)
theorem zLf:ElT Tryz.prog 22 5 1 1 (.int .u8 0):=⟨Tryz.underlying22,by kernel_rfl,rfl,by decide⟩
def u8s (l:List Nat):List Value:=l.map fun b=> .int .u8 (b:Nat)
theorem zBt (l:List Nat):(u8s l).length=l.length:=by simp[u8s]
theorem zHJ (l:List Nat): ∀u∈u8s l,u.oneCell'=true:=by
 intro u hu
 simp only[u8s,List.mem_map]at hu
 obtain⟨b,_,rfl⟩:=hu
 rfl
theorem zOU {w:World} {base n:Nat} {v:Value} {l:List Nat} (h:w.ownsRow base 5 1 v n (u8s l)):
  (convert 22 9 v).run Tryz.prog w= .ok (.string (strOfNums (l.map fun b:Nat=>(b:Int)))) w:=by
 rcases h.2 with ⟨rfl,rfl⟩|⟨g,cap,cur,rfl,hb,hg,hnc,hcm,hcs,htake⟩
 ·have hl:l=[]:=List.eq_nil_of_length_eq_zero (by have:=h.1;simpa [zBt]using this)
  subst hl
  exact run_convert_bytes_nil w _ _ Tryz.underlying22 Tryz.underlying5 _ _ _ Tryz.underlying9
 ·have hln:l.length=n:=by have:=h.1;simpa [zBt]using this
  refine run_convert_bytes_arg w _ _ Tryz.underlying22 Tryz.underlying5 g 0 n cap _ (by simpa using hln) (fun i hi=>?_) _ Tryz.underlying9
  have hadd:(⟨g,0,none⟩:Addr).add i=⟨g,0+i,none⟩:=by unfold Addr.add;split<;>simp_all
  rw[←hadd]
  refine h.cells (g:=g) rfl i _ ?_
  simp[u8s,List.getD_eq_getElem?_getD,show i<l.length by omega]
theorem zIv (l:List Nat) (h: ∀b∈l,b<256):zBN (strOfNums (l.map fun b:Nat=>(b:Int)))=l:=by
 simp only[zBN,strOfNums_data,List.map_map]
 conv=>rhs;rw[←List.map_id l]
 refine List.map_congr_left fun b hb=>?_
 have:=h b hb
 simp[Function.comp]
 omega
end
section
open Go.RowKit
def zAV (x:Nd):Array Value:= #[.int .i8 x.op,.int .u64 x.set.w0.toNat,.int .u64 x.set.w1.toNat,.int .u64 x.set.w2.toNat,.int .u64 x.set.w3.toNat,.int .i64 x.n,.int .i64 x.min,.int .i64 x.max,.int .i64 x.kids]
abbrev ndV (x:Nd):Value:= .agg #[.int .i8 x.op,.int .u64 x.set.w0.toNat,.int .u64 x.set.w1.toNat,.int .u64 x.set.w2.toNat,.int .u64 x.set.w3.toNat,.int .i64 x.n,.int .i64 x.min,.int .i64 x.max,.int .i64 x.kids]
def zG3 (w:World) (B:Nat):Prop:= ∃cs:Array Value,cs.size=9∧w.heap[B]?=some (.cells cs 101 (0,0))
theorem zG3.lt {w:World} {B:Nat} (h:zG3 w B):B<w.heap.size:=by
 obtain⟨_,_,h⟩:=h
 exact(Array.getElem?_eq_some_iff.1 h).1
def zK2 (w:World) (B:Nat) (s0 s1 s2 s3 s4 s5 s6 s7 s8:Int):World:=(((((((((w).setCell ⟨B,0,none⟩ (.int .i8 s0)).setCell ⟨B,1,none⟩ (.int .u64 s1)).setCell ⟨B,2,none⟩ (.int .u64 s2)).setCell ⟨B,3,none⟩ (.int .u64 s3)).setCell ⟨B,4,none⟩ (.int .u64 s4)).setCell ⟨B,5,none⟩ (.int .i64 s5)).setCell ⟨B,6,none⟩ (.int .i64 s6)).setCell ⟨B,7,none⟩ (.int .i64 s7)).setCell ⟨B,8,none⟩ (.int .i64 s8)
theorem zDF (w:World) (B:Nat) (s0 s1 s2 s3 s4 s5 s6 s7 s8:Int):(((((((((w).setCell ⟨B,0,none⟩ (.int .i8 s0)).setCell ⟨B,1,none⟩ (.int .u64 s1)).setCell ⟨B,2,none⟩ (.int .u64 s2)).setCell ⟨B,3,none⟩ (.int .u64 s3)).setCell ⟨B,4,none⟩ (.int .u64 s4)).setCell ⟨B,5,none⟩ (.int .i64 s5)).setCell ⟨B,6,none⟩ (.int .i64 s6)).setCell ⟨B,7,none⟩ (.int .i64 s7)).setCell ⟨B,8,none⟩ (.int .i64 s8)=zK2 w B s0 s1 s2 s3 s4 s5 s6 s7 s8:=rfl
theorem zKG {w:World} {B:Nat} (h:zG3 w B) (s0 s1 s2 s3 s4 s5 s6 s7 s8:Int):(zK2 w B s0 s1 s2 s3 s4 s5 s6 s7 s8).heap[B]?=some (.cells #[.int .i8 s0,.int .u64 s1,.int .u64 s2,.int .u64 s3,.int .u64 s4,.int .i64 s5,.int .i64 s6,.int .i64 s7,.int .i64 s8] 101 (0,0)):=by
 obtain⟨cs,hs,h⟩:=h
 obtain⟨a0,a1,a2,a3,a4,a5,a6,a7,a8,rfl⟩: ∃a0 a1 a2 a3 a4 a5 a6 a7 a8,cs= #[a0,a1,a2,a3,a4,a5,a6,a7,a8]:=by
  obtain⟨l⟩:=cs
  match l,hs with
  |[a0,a1,a2,a3,a4,a5,a6,a7,a8],_=>exact⟨a0,a1,a2,a3,a4,a5,a6,a7,a8,rfl⟩
 simp[zK2,World.setCell,Array.getElem?_modify,h]
theorem zBW {w:World} {B k:Nat} (h:k≤B) (s0 s1 s2 s3 s4 s5 s6 s7 s8:Int):Below k w (zK2 w B s0 s1 s2 s3 s4 s5 s6 s7 s8):=((((((((((Below.refl k w).setCell (p:=⟨B,0,none⟩) h _).setCell (p:=⟨B,1,none⟩) h _).setCell (p:=⟨B,2,none⟩) h _).setCell (p:=⟨B,3,none⟩) h _).setCell (p:=⟨B,4,none⟩) h _).setCell (p:=⟨B,5,none⟩) h _).setCell (p:=⟨B,6,none⟩) h _).setCell (p:=⟨B,7,none⟩) h _).setCell (p:=⟨B,8,none⟩) h _)
theorem zIe {w1:World} {B:Nat} {s0 s1 s2 s3 s4 s5 s6 s7 s8:Int} (h1:w1.heap[B]?=some (.cells #[.int .i8 s0,.int .u64 s1,.int .u64 s2,.int .u64 s3,.int .u64 s4,.int .i64 s5,.int .i64 s6,.int .i64 s7,.int .i64 s8] 101 (0,0))):
  (loadVar 101 ⟨B,0,none⟩).run Tryz.prog w1= .ok (.agg #[.int .i8 s0,.int .u64 s1,.int .u64 s2,.int .u64 s3,.int .u64 s4,.int .i64 s5,.int .i64 s6,.int .i64 s7,.int .i64 s8]) w1:=by
 have hc: ∀j,w1.cell? ⟨B,j,none⟩=(#[.int .i8 s0,.int .u64 s1,.int .u64 s2,.int .u64 s3,.int .u64 s4,.int .i64 s5,.int .i64 s6,.int .i64 s7,.int .i64 s8]:Array Value)[j]?:=fun j=>cell_of_row w1 B j _ _ (0,0) h1
 have c0:=hc 0
 have c1:=hc 1
 have c2:=hc 2
 have c3:=hc 3
 have c4:=hc 4
 have c5:=hc 5
 have c6:=hc 6
 have c7:=hc 7
 have c8:=hc 8
 simp only[List.getElem?_toArray,List.getElem?_cons_zero,List.getElem?_cons_succ]at c0 c1 c2 c3 c4 c5 c6 c7 c8
 simp[go_sem,c0,c1,c2,c3,c4,c5,c6,c7,c8]
theorem zDO {fn:Func} {p:Tmp} {ty:TypeId} (h:fn.results= #[.cell p ty]) (tmps:Array Value) (P:Program) (w:World):
  (results fn tmps).run P w=((asAddr (tmps.getD p undef)).run P w).andThen fun a w₁=>(loadVar ty a).run P w₁:=by
 simp only[results,h]
 simp[Sem.run_bind,Result.andThen]
theorem zPu {fn:Func} {p:Tmp} (h:fn.results= #[.cell p 101]) {a:Act} {w W w0:World} {B:Nat} {s0 s1 s2 s3 s4 s5 s6 s7 s8:Int} {x:Nd}
  (ha:a.tmps.getD p undef= .pointer (some ⟨B,0,none⟩)) (hd:a.defers=[]) (his:zG3 w B) (hW:Below (B+1) (zK2 w B s0 s1 s2 s3 s4 s5 s6 s7 s8) W)
  (hx:ndV x= .agg #[.int .i8 s0,.int .u64 s1,.int .u64 s2,.int .u64 s3,.int .u64 s4,.int .i64 s5,.int .i64 s6,.int .i64 s7,.int .i64 s8]) (hb:Below w0.heap.size w0 w) (hB:w0.heap.size≤B):
  bodyPost Tryz.prog fn (fun e w'=>e= .returned (ndV x)∧Below w0.heap.size w0 w') .ret a W:=by
 refine bodyPost_ret (v:=ndV x) ?_ hd ⟨rfl,(hb.trans (zBW hB _ _ _ _ _ _ _ _ _)).trans (hW.mono (by omega))⟩
 rw[zDO h,ha,hx]
 simp[asAddr,zIe ((hW.block B (Nat.lt_succ_self _)).trans (zKG his s0 s1 s2 s3 s4 s5 s6 s7 s8)),Result.andThen]
def zGi (w:World):World:=w.alloc (.cells #[.int .i8 0,.int .u64 0,.int .u64 0,.int .u64 0,.int .u64 0,.int .i64 0,.int .i64 0,.int .i64 0,.int .i64 0] 101)
theorem zKP (w:World):zG3 (zGi w) w.heap.size:=⟨_,rfl,heap_alloc_new w _⟩
theorem zDB (w:World):(zGi w).heap.size=w.heap.size+1:=by simp[zGi]
theorem zDQ (w:World):Below w.heap.size w (zGi w):=(Below.refl _ _).alloc (Nat.le_refl _) _
theorem zG8 (w:World):w.alloc (.cells #[.int .i8 0,.int .u64 0,.int .u64 0,.int .u64 0,.int .u64 0,.int .i64 0,.int .i64 0,.int .i64 0,.int .i64 0] 101)=zGi w:=rfl
theorem zG3.below {w w':World} {B:Nat} (h:zG3 w B) (hb:Below w.heap.size w w'):zG3 w' B:=by
 obtain⟨cs,hs,hc⟩:=h
 exact⟨cs,hs,(hb.block B (zG3.lt ⟨cs,hs,hc⟩)).trans hc⟩
theorem zG3.cells {w:World} {B:Nat} (h:zG3 w B): ∃a0 a1 a2 a3 a4 a5 a6 a7 a8,w.cell? ⟨B,0,none⟩=some a0∧w.cell? ⟨B,1,none⟩=some a1∧w.cell? ⟨B,2,none⟩=some a2∧w.cell? ⟨B,3,none⟩=some a3∧w.cell? ⟨B,4,none⟩=some a4∧w.cell? ⟨B,5,none⟩=some a5∧w.cell? ⟨B,6,none⟩=some a6∧w.cell? ⟨B,7,none⟩=some a7∧w.cell? ⟨B,8,none⟩=some a8∧(∀o,w.frozen? ⟨B,o,none⟩=false):=by
 obtain⟨cs,hs,h⟩:=h
 obtain⟨a0,a1,a2,a3,a4,a5,a6,a7,a8,rfl⟩: ∃a0 a1 a2 a3 a4 a5 a6 a7 a8,cs= #[a0,a1,a2,a3,a4,a5,a6,a7,a8]:=by
  obtain⟨l⟩:=cs
  match l,hs with
  |[a0,a1,a2,a3,a4,a5,a6,a7,a8],_=>exact⟨a0,a1,a2,a3,a4,a5,a6,a7,a8,rfl⟩
 have hc: ∀j,w.cell? ⟨B,j,none⟩=(#[a0,a1,a2,a3,a4,a5,a6,a7,a8]:Array Value)[j]?:=fun j=>cell_of_row w B j _ _ (0,0) h
 exact⟨a0,a1,a2,a3,a4,a5,a6,a7,a8,hc 0,hc 1,hc 2,hc 3,hc 4,hc 5,hc 6,hc 7,hc 8,zAF h⟩
theorem zEU (b:Nat) (hb:b<256) (w:World):
  Calls Tryz.prog 231 #[.int .u8 (b:Nat)] w fun e w'=>e= .returned (ndV (zEx b))∧Below w.heap.size w w':=by
 have hof:=zEo [b] #[.int .u8 (b:Nat)] rfl (by simpa using hb) (by simp)
 unfold zEx
 generalize Cls.of [b]=c at hof ⊢
 go_enter Tryz.func231,Tryz.ntmps231
 go_wp2_with fail
 rw[zG8,←zDB]
 refine(hof (zGi w)).mono ?_
 intro e w1 h
 obtain⟨he,hb1⟩:=h
 subst he
 have hb2:Below (zGi w).heap.size (zGi w) w1:=Below.trans ((Below.refl _ _).alloc (Nat.le_refl _) _) (hb1.mono (by simp))
 have hbe:Below w.heap.size w w1:=(zDQ w).trans (hb2.mono (by rw[zDB];omega))
 have his:zG3 w1 w.heap.size:=(zKP w).below hb2
 obtain⟨a0,a1,a2,a3,a4,a5,a6,a7,a8,c0,c1,c2,c3,c4,c5,c6,c7,c8,f0⟩:=his.cells
 clear hof hb1 hb2
 obtain⟨x0,x1,x2,x3⟩:=c
 have HI:=Lib.hid his
 have HB:=Lib.hid hbe
 clear his hbe
 go_wp2_with fail
 rw[zDF]
 exact zPu Tryz.results231 rfl rfl HI.out (Below.refl _ _) rfl HB.out (Nat.le_refl _)
end
section
open Go.RowKit
structure zI7 (w:World) (mb mo:Nat) (L:List Mk):Prop where
 lt:mb<w.heap.size
 len:L.length≤4096
 b: ∀i,i<L.length→w.cell? ⟨mb,mo+i*2,none⟩=some (.int .u8 ((zAH L i).b:Int))
 p: ∀i,i<L.length→w.cell? ⟨mb,mo+i*2+1,none⟩=some (.bool (zAH L i).p)
 u: ∀i,i<L.length→(zAH L i).b<256
theorem zI7.below {w w':World} {mb mo:Nat} {L:List Mk} (h:zI7 w mb mo L) (hb:Below w.heap.size w w'):zI7 w' mb mo L:=
 ⟨Nat.lt_of_lt_of_le h.lt hb.size,h.len,fun i hi=>(hb.cell (p:=⟨mb,mo+i*2,none⟩) h.lt).trans (h.b i hi),fun i hi=>(hb.cell (p:=⟨mb,mo+i*2+1,none⟩) h.lt).trans (h.p i hi),h.u⟩
structure Br (w:World) (rb mb mo cap:Nat) (L:List Mk) (at0:Nat):Prop where
 lt:rb<w.heap.size
 c0:w.cell? ⟨rb,0,none⟩=some (.slice (some ⟨mb,mo,none⟩) L.length cap)
 c1:w.cell? ⟨rb,1,none⟩=some (.int .i64 at0)
 m:zI7 w mb mo L
 h0:at0≤4096
theorem Br.below {w w':World} {rb mb mo cap:Nat} {L:List Mk} {at0:Nat} (h:Br w rb mb mo cap L at0) (hb:Below w.heap.size w w'):Br w' rb mb mo cap L at0:=
 ⟨Nat.lt_of_lt_of_le h.lt hb.size,(hb.cell (p:=⟨rb,0,none⟩) h.lt).trans h.c0,(hb.cell (p:=⟨rb,1,none⟩) h.lt).trans h.c1,h.m.below hb,h.h0⟩
theorem zAL {rb mb mo cap:Nat} {L:List Mk} {at0:Nat} {w:World} (h:Br w rb mb mo cap L at0) {i c:Int} (n k:Nat) (hi:i=n) (hc:c=k):
  Calls Tryz.prog 245 #[.pointer (some ⟨rb,0,none⟩),.int .i64 i,.int .u8 c] w fun e w'=>e= .returned (.bool (signAt L n k))∧w=w':=by
 subst hi
 subst hc
 obtain⟨hrb,h0,_,hm,_⟩:=h
 have hL:=hm.len
 by_cases hlt:n<L.length
 ·have hb:=hm.b n hlt
  have hp:=hm.p n hlt
  have hs:Hid (signAt L n k=((zAH L n).b==k&& !(zAH L n).p)):=by simp[Hid,signAt,hlt]
  clear hm
  go_enter Tryz.func245,Tryz.ntmps245
  go_wp2_with fail
  all_goals
   go_ret
   refine⟨zCE ?_,rfl⟩
   rw[hs.out]
   by_cases e:(zAH L n).b=k<;>cases hp':(zAH L n).p<;>simp_all<;>omega
 ·have hs:Hid (signAt L n k=false):=by simp[Hid,signAt,hlt]
  clear hm
  go_enter Tryz.func245,Tryz.ntmps245
  go_wp2_with fail
  go_ret
  exact⟨zCE hs.out.symm,rfl⟩
def Flt (base:Nat) (w:World) (v:Value):Option (Nat × Nat)→Prop
 |none=>v= .pointer none
 |some (e,at_)=> ∃b,v= .pointer (some ⟨b,0,none⟩)∧base≤b∧b<w.heap.size∧w.cell? ⟨b,0,none⟩=some (.int .i64 (e:Nat))∧w.cell? ⟨b,1,none⟩=some (.int .i64 (at_:Nat))
theorem Flt.below {base:Nat} {w w':World} {v:Value} {f:Option (Nat × Nat)} (h:Flt base w v f) (hb:Below w.heap.size w w'):Flt base w' v f:=by
 cases f with
 |none=>exact h
 |some p=>
  obtain⟨b,rfl,hge,hlt,h0,h1⟩:=h
  exact⟨b,rfl,hge,Nat.lt_of_lt_of_le hlt hb.size,(hb.cell (p:=⟨b,0,none⟩) hlt).trans h0,(hb.cell (p:=⟨b,1,none⟩) hlt).trans h1⟩
theorem Flt.mono {base k:Nat} {w:World} {v:Value} {f:Option (Nat × Nat)} (h:Flt base w v f) (hk:k≤base):Flt k w v f:=by
 cases f with
 |none=>exact h
 |some p=>
  obtain⟨b,rfl,hge,rest⟩:=h
  exact⟨b,rfl,by omega,rest⟩
theorem zC1 {base:Nat} {w:World} {n e at_:Nat} {t:TypeId} (h:n=w.heap.size) (hb:base≤w.heap.size):Flt base (w.alloc (.cells #[.int .i64 (e:Nat),.int .i64 (at_:Nat)] t)) (.pointer (some ⟨n,0,none⟩)) (some (e,at_)):=by
 subst h
 exact⟨w.heap.size,rfl,hb,by simp,by rw[cell_of_row _ _ 0 _ t (0,0) (heap_alloc_new w _)];rfl,by rw[cell_of_row _ _ 1 _ t (0,0) (heap_alloc_new w _)];rfl⟩
theorem zEn {rb mb mo cap:Nat} {L:List Mk} {at0:Nat} {w:World} (h:Br w rb mb mo cap L at0):
  Calls Tryz.prog 263 #[.pointer (some ⟨rb,0,none⟩)] w fun e w'=> ∃v,e= .returned v∧Flt w.heap.size w' v (some (32,at0))∧Below w.heap.size w w':=by
 obtain⟨hrb,h0,h1,hm,_⟩:=h
 clear hm
 go_enter Tryz.func263,Tryz.ntmps263
 go_wp2_with fail
 go_ret
 exact⟨_,rfl,zC1 (e:=32) rfl (Nat.le_refl _),(by repeat (first|exact Below.refl _ _|assumption|refine Below.drew ?_|refine Below.alloc ?_ (by first|(simp;done)|(simp;omega)|omega) _|refine Below.setCell ?_ (by first|(simp;done)|(simp;omega)|omega) _))⟩
def zO5 (t:Th):Array Value:= #[.int .u64 t.set.w0.toNat,.int .u64 t.set.w1.toNat,.int .u64 t.set.w2.toNat,.int .u64 t.set.w3.toNat,.int .u8 (t.b:Nat),.bool t.fin,.int .i64 (t.next:Nat)]
abbrev thV (t:Th):Value:= .agg #[.int .u64 t.set.w0.toNat,.int .u64 t.set.w1.toNat,.int .u64 t.set.w2.toNat,.int .u64 t.set.w3.toNat,.int .u8 (t.b:Nat),.bool t.fin,.int .i64 (t.next:Nat)]
def zFc (w:World) (B:Nat) (t:Th):Prop:=w.heap[B]?=some (.cells (zO5 t) 291 (0,0))
theorem zFc.lt {w:World} {B:Nat} {t:Th} (h:zFc w B t):B<w.heap.size:=(Array.getElem?_eq_some_iff.1 h).1
theorem zFc.below {w w':World} {B:Nat} {t:Th} (h:zFc w B t) (hb:Below w.heap.size w w'):zFc w' B t:=(hb.block B h.lt).trans h
theorem zFc.cells {w:World} {B:Nat} {t:Th} (h:zFc w B t):
  w.cell? ⟨B,0,none⟩=some (.int .u64 t.set.w0.toNat)∧w.cell? ⟨B,1,none⟩=some (.int .u64 t.set.w1.toNat)∧w.cell? ⟨B,2,none⟩=some (.int .u64 t.set.w2.toNat)∧w.cell? ⟨B,3,none⟩=some (.int .u64 t.set.w3.toNat)∧
  w.cell? ⟨B,4,none⟩=some (.int .u8 (t.b:Nat))∧w.cell? ⟨B,5,none⟩=some (.bool t.fin)∧w.cell? ⟨B,6,none⟩=some (.int .i64 (t.next:Nat)):=by
 refine⟨?_,?_,?_,?_,?_,?_,?_⟩<;>rw[cell_of_row w B _ _ _ (0,0) h]<;>rfl
def zNV (r:Th × Option (Nat × Nat)) (w:World) (e:Ending) (w':World):Prop:= ∃v,e= .returned (.tuple #[thV r.1,v])∧Flt w.heap.size w' v r.2∧Below w.heap.size w w'
theorem zIA {P:Program} {fn:Func} {p u:Tmp} {ty:TypeId} (h:fn.results= #[.cell p ty,.tmp u]) {a:Act} {w:World} {ad:Addr} {V x:Value} {R:Ending→World→Prop} (ha:a.tmps.getD p undef= .pointer (some ad))
  (hu:a.tmps.getD u undef=x) (hl:(loadVar ty ad).run P w= .ok V w) (hd:a.defers=[]) (hR:R (.returned (.tuple #[V,x])) w):bodyPost P fn R .ret a w:=by
 refine bodyPost_ret (v:= .tuple #[V,x]) ?_ hd hR
 rw[Go.results_cell_tmp h,ha,hu]
 simp[asAddr,hl,Result.andThen]
def zJr (w:World) (B:Nat):Prop:= ∃a0 a1 a2 a3 a4 a5 a6:Value,w.heap[B]?=some (.cells #[a0,a1,a2,a3,a4,a5,a6] 291 (0,0))
theorem zFc.is {w:World} {B:Nat} {t:Th} (h:zFc w B t):zJr w B:=⟨_,_,_,_,_,_,_,h⟩
theorem zJr.lt {w:World} {B:Nat} (h:zJr w B):B<w.heap.size:=by
 obtain⟨_,_,_,_,_,_,_,h⟩:=h
 exact(Array.getElem?_eq_some_iff.1 h).1
theorem zJr.below {w w':World} {B:Nat} (h:zJr w B) (hb:Below w.heap.size w w'):zJr w' B:=by
 have hlt:=h.lt
 obtain⟨a0,a1,a2,a3,a4,a5,a6,h⟩:=h
 exact⟨a0,a1,a2,a3,a4,a5,a6,(hb.block B hlt).trans h⟩
@[go_sem ↓ high] theorem zPj (w:World) (o:Obj) (B:Nat) (h:zJr w B):zJr (w.alloc o) B=True:=eq_true (h.below ((Below.refl _ _).alloc (Nat.le_refl _) o))
@[go_sem ↓ high] theorem zP4 (w:World) (B:Nat) (h:zJr w B):zJr w.drew B=True:=eq_true h
def zGd (w:World) (B:Nat) (s0 s1 s2 s3 b:Int) (e:Bool) (n:Int):World:=
 ((((((w.setCell ⟨B,0,none⟩ (.int .u64 s0)).setCell ⟨B,1,none⟩ (.int .u64 s1)).setCell ⟨B,2,none⟩ (.int .u64 s2)).setCell ⟨B,3,none⟩ (.int .u64 s3)).setCell
  ⟨B,4,none⟩ (.int .u8 b)).setCell ⟨B,5,none⟩ (.bool e)).setCell ⟨B,6,none⟩ (.int .i64 n)
theorem zAN (w:World) (B:Nat) (s0 s1 s2 s3 b:Int) (e:Bool) (n:Int):
  ((((((w.setCell ⟨B,0,none⟩ (.int .u64 s0)).setCell ⟨B,1,none⟩ (.int .u64 s1)).setCell ⟨B,2,none⟩ (.int .u64 s2)).setCell ⟨B,3,none⟩ (.int .u64 s3)).setCell
   ⟨B,4,none⟩ (.int .u8 b)).setCell ⟨B,5,none⟩ (.bool e)).setCell ⟨B,6,none⟩ (.int .i64 n)=zGd w B s0 s1 s2 s3 b e n:=rfl
theorem zNq {w:World} {B:Nat} (h:zJr w B) (s0 s1 s2 s3 b:Int) (e:Bool) (n:Int):
  (zGd w B s0 s1 s2 s3 b e n).heap[B]?=some (.cells #[.int .u64 s0,.int .u64 s1,.int .u64 s2,.int .u64 s3,.int .u8 b,.bool e,.int .i64 n] 291 (0,0)):=by
 obtain⟨a0,a1,a2,a3,a4,a5,a6,h⟩:=h
 simp[zGd,World.setCell,Array.getElem?_modify,h]
theorem zJK {w:World} {B k:Nat} (h:k≤B) (s0 s1 s2 s3 b:Int) (e:Bool) (n:Int):Below k w (zGd w B s0 s1 s2 s3 b e n):=
 (((((((Below.refl k w).setCell (p:=⟨B,0,none⟩) h _).setCell (p:=⟨B,1,none⟩) h _).setCell (p:=⟨B,2,none⟩) h _).setCell (p:=⟨B,3,none⟩) h _).setCell (p:=⟨B,4,none⟩) h _).setCell (p:=⟨B,5,none⟩) h _).setCell (p:=⟨B,6,none⟩) h _
theorem zF3 {w:World} {B k:Nat} (h:k≠B) (s0 s1 s2 s3 b:Int) (e:Bool) (n:Int):(zGd w B s0 s1 s2 s3 b e n).heap[k]?=w.heap[k]?:=by
 unfold zGd
 rw[Below.heap_setCell _ _ _ _ h,Below.heap_setCell _ _ _ _ h,Below.heap_setCell _ _ _ _ h,Below.heap_setCell _ _ _ _ h,Below.heap_setCell _ _ _ _ h,Below.heap_setCell _ _ _ _ h,Below.heap_setCell _ _ _ _ h]
theorem zAO {w:World} {B:Nat} (s0 s1 s2 s3 b:Int) (e:Bool) (n:Int):(zGd w B s0 s1 s2 s3 b e n).heap.size=w.heap.size:=by simp[zGd]
theorem zMj {w1:World} {B:Nat} {s0 s1 s2 s3 b:Int} {e:Bool} {n:Int} (h1:w1.heap[B]?=some (.cells #[.int .u64 s0,.int .u64 s1,.int .u64 s2,.int .u64 s3,.int .u8 b,.bool e,.int .i64 n] 291 (0,0))):
  (loadVar 291 ⟨B,0,none⟩).run Tryz.prog w1= .ok (.agg #[.int .u64 s0,.int .u64 s1,.int .u64 s2,.int .u64 s3,.int .u8 b,.bool e,.int .i64 n]) w1:=by
 have hc: ∀j,w1.cell? ⟨B,j,none⟩=(#[.int .u64 s0,.int .u64 s1,.int .u64 s2,.int .u64 s3,.int .u8 b,.bool e,.int .i64 n]:Array Value)[j]?:=fun j=>cell_of_row w1 B j _ _ (0,0) h1
 have c0:=hc 0
 have c1:=hc 1
 have c2:=hc 2
 have c3:=hc 3
 have c4:=hc 4
 have c5:=hc 5
 have c6:=hc 6
 simp only[List.getElem?_toArray,List.getElem?_cons_zero,List.getElem?_cons_succ]at c0 c1 c2 c3 c4 c5 c6
 simp[go_sem,c0,c1,c2,c3,c4,c5,c6]
theorem zAm {fn:Func} {p u:Tmp} (h:fn.results= #[.cell p 291,.tmp u]) {a:Act} {w W w0:World} {B:Nat} {s0 s1 s2 s3 b:Int} {e:Bool} {n:Int} {v:Value} {r:Th × Option (Nat × Nat)}
  (ha:a.tmps.getD p undef= .pointer (some ⟨B,0,none⟩)) (hu:a.tmps.getD u undef=v) (hd:a.defers=[]) (his:zJr w B) (hW:Below (B+1) (zGd w B s0 s1 s2 s3 b e n) W)
  (hv:thV r.1= .agg #[.int .u64 s0,.int .u64 s1,.int .u64 s2,.int .u64 s3,.int .u8 b,.bool e,.int .i64 n]) (hf:Flt w0.heap.size W v r.2) (hb:Below w0.heap.size w0 w) (hB:w0.heap.size≤B):
  bodyPost Tryz.prog fn (zNV r w0) .ret a W:=by
 refine zIA h ha hu (zMj ((hW.block B (Nat.lt_succ_self _)).trans (zNq his s0 s1 s2 s3 b e n))) hd ⟨v,?_,hf,(hb.trans (zJK hB _ _ _ _ _ _ _)).trans (hW.mono (by omega))⟩
 rw[hv]
theorem Flt.set {base:Nat} {w:World} {v:Value} {f:Option (Nat × Nat)} {B:Nat} (h:Flt base w v f) (hB:B<base) (s0 s1 s2 s3 b:Int) (e:Bool) (n:Int):Flt base (zGd w B s0 s1 s2 s3 b e n) v f:=by
 cases f with
 |none=>simp only[Flt]at h ⊢;exact h
 |some p=>
  obtain⟨c,rfl,hge,hlt,h0,h1⟩:=h
  have hne:c≠B:=by omega
  refine⟨c,rfl,hge,by rw[zAO];exact hlt,?_,?_⟩
  ·exact(World.cell?_of_block (a:=⟨c,0,none⟩) (zF3 (w:=w) hne _ _ _ _ _ _ _)).trans h0
  ·exact(World.cell?_of_block (a:=⟨c,1,none⟩) (zF3 (w:=w) hne _ _ _ _ _ _ _)).trans h1
theorem zMf {L:List Mk} {at0 b0 n i:Nat} {s:List Nat} (h1:signAt L i 58=true) (h2:signAt L (i+1) 93=true):
  zC2 L at0 b0 (n+1) i s=match zA5 s with|none=>(Th.zero,some (31,b0))|some c=>(⟨c,0,false,i+2⟩,none):=by simp[zC2,h1,h2];cases zA5 s<;>rfl
theorem zPP {L:List Mk} {at0 b0 n i:Nat} {s:List Nat} (h:(signAt L i 58&&signAt L (i+1) 93)=false):
  zC2 L at0 b0 (n+1) i s=zC2 L at0 b0 n (i+1) (s++[(zAH L i).b]):=by simp[zC2,h]
end
section
open Go.RowKit
theorem zN4 {rb mb mo cap:Nat} {L:List Mk} {at0:Nat} {w:World} (h:Br w rb mb mo cap L at0) {b:Int} (n:Nat) (hbi:b=n) (hn:n+1<L.length):
  Calls Tryz.prog 274 #[.pointer (some ⟨rb,0,none⟩),.int .i64 b] w (zNV (zEB L at0 n) w):=by
 subst hbi
 have hL:=h.m.len
 have hrb:=h.lt
 go_enter Tryz.func274,Tryz.ntmps274
 go_wp2_with fail
 go_loopw [6,7] (fun v i wr=> ∃(k:Nat) (s:List Nat),n+2≤k∧k≤L.length∧i= .int .i64 k∧wr.ownsRow (w.heap.size+1) 5 1 v s.length (u8s s)∧s.length≤k∧(∀b∈s,b<256)∧
   Hid (zEB L at0 n=zC2 L at0 n (L.length - k) k s)∧zFc wr w.heap.size Th.zero∧Below w.heap.size w wr) (fun _ i _=>L.length - (intOf i).toNat)
 case atStart=>exact⟨n+2,[],by omega,by omega,by go_num,World.ownsRow_nil _ _ _ _,by simp,by simp,rfl,heap_alloc_new w _,(by repeat (first|exact Below.refl _ _|assumption|refine Below.drew ?_|refine Below.alloc ?_ (by first|(simp;done)|(simp;omega)|omega) _|refine Below.setCell ?_ (by first|(simp;done)|(simp;omega)|omega) _))⟩
 case round=>
  obtain⟨k,s,hk0,hk,rfl,hown,hsl,hs256,HS,hz,hbe⟩:=hrel
  have hr:=h.below hbe
  have c0:=hr.c0
  have hrb':=hr.lt
  have HZ:=Lib.hid hz
  by_cases hlt:k<L.length
  ·have hm1:=hr.m.b k hlt
   have hu:=hr.m.u k hlt
   have hmb:=hr.m.lt
   have hno:(signAt L k 58&&signAt L (k+1) 93)=false∨(signAt L k 58=true∧signAt L (k+1) 93=true):=by cases signAt L k 58<;>cases signAt L (k+1) 93<;>simp
   rcases hno with hno|⟨e1,e2⟩
   ·have HON:=Lib.hid (zPP (at0:=at0) (b0:=n) (n:=L.length - (k+1)) (s:=s) hno)
    have hcase:(signAt L k 58=false)∨(signAt L k 58=true∧signAt L (k+1) 93=false):=by cases h1:signAt L k 58<;>simp_all
    clear hno
    have hsz:=hz.lt
    clear hz
    rcases hcase with e1|⟨e1,e2⟩
    ·go_wp2_with fail
     refine(zAL hr k 58 (by omega) rfl).mono ?_;rintro e w1 ⟨rfl,rfl⟩
     go_wp2_with (at_builtin;refine zAa zLf rfl _ _ rfl (w.heap.size+1) rfl (hown.alloc _) rfl (Src.new wr [.int .u8 ((zAH L k).b:Nat)] _ _ _) rfl (by simp[Value.oneCell']) (by unfold maxLen;omega) (by omega) (by simp;omega) ?_)
     intro v1 w1 hown1 hgr _
     have hb1:Below (w.heap.size+1) wr w1:=Below.grown (Below.alloc (Below.refl _ _) (by omega) _) hgr (by simp;omega) (fun k hk=>(hown.lt k hk).1)
     have hz1:zFc w1 w.heap.size Th.zero:=(hb1.block _ (by omega)).trans HZ.out
     have hown2:w1.ownsRow (w.heap.size+1) 5 1 v1 (s++[(zAH L k).b]).length (u8s (s++[(zAH L k).b])):=by simpa [u8s]using hown1
     have hr256: ∀b∈s++[(zAH L k).b],b<256:=by
      intro b hb
      rcases List.mem_append.1 hb with hb|hb
      ·exact hs256 b hb
      ·simp at hb;omega
     have HF:=Lib.hid (show n+2≤k+1∧k+1≤L.length∧w1.ownsRow (w.heap.size+1) 5 1 v1 (s++[(zAH L k).b]).length (u8s (s++[(zAH L k).b]))∧(s++[(zAH L k).b]).length≤k+1∧(∀b∈s++[(zAH L k).b],b<256)∧
      Hid (zEB L at0 n=zC2 L at0 n (L.length - (k+1)) (k+1) (s++[(zAH L k).b]))∧zFc w1 w.heap.size Th.zero∧Below w.heap.size w w1 from
      ⟨by omega,by omega,hown2,by simp;omega,hr256,HS.out.trans ((congrArg (fun m=>zC2 L at0 n m k s) (show L.length - k=L.length - (k+1)+1 by omega)).trans HON.out),hz1,hbe.trans (hb1.mono (by omega))⟩)
     clear hown hown1 hown2 hgr hb1 hz1 hr256 hs256 c0 hm1 hr HS HON HZ hbe
     go_wp2_with fail
     obtain⟨f1,f2,f3,f4,f5,f6,f7,f8⟩:=HF.out
     go_roundw
     case rel=>exact⟨k+1,_,f1,f2,by go_num,f3,f4,f5,f6,f7,f8⟩
     case measure=>simp[intOf];omega
    ·go_wp2_with fail
     refine(zAL hr k 58 (by omega) rfl).mono ?_;rintro e w1 ⟨rfl,rfl⟩
     go_wp2_with fail
     refine(zAL hr (k+1) 93 (by omega) rfl).mono ?_;rintro e w1 ⟨rfl,rfl⟩
     go_wp2_with (at_builtin;refine zAa zLf rfl _ _ rfl (w.heap.size+1) rfl (hown.alloc _) rfl (Src.new wr [.int .u8 ((zAH L k).b:Nat)] _ _ _) rfl (by simp[Value.oneCell']) (by unfold maxLen;omega) (by omega) (by simp;omega) ?_)
     intro v1 w1 hown1 hgr _
     have hb1:Below (w.heap.size+1) wr w1:=Below.grown (Below.alloc (Below.refl _ _) (by omega) _) hgr (by simp;omega) (fun k hk=>(hown.lt k hk).1)
     have hz1:zFc w1 w.heap.size Th.zero:=(hb1.block _ (by omega)).trans HZ.out
     have hown2:w1.ownsRow (w.heap.size+1) 5 1 v1 (s++[(zAH L k).b]).length (u8s (s++[(zAH L k).b])):=by simpa [u8s]using hown1
     have hr256: ∀b∈s++[(zAH L k).b],b<256:=by
      intro b hb
      rcases List.mem_append.1 hb with hb|hb
      ·exact hs256 b hb
      ·simp at hb;omega
     have HF:=Lib.hid (show n+2≤k+1∧k+1≤L.length∧w1.ownsRow (w.heap.size+1) 5 1 v1 (s++[(zAH L k).b]).length (u8s (s++[(zAH L k).b]))∧(s++[(zAH L k).b]).length≤k+1∧(∀b∈s++[(zAH L k).b],b<256)∧
      Hid (zEB L at0 n=zC2 L at0 n (L.length - (k+1)) (k+1) (s++[(zAH L k).b]))∧zFc w1 w.heap.size Th.zero∧Below w.heap.size w w1 from
      ⟨by omega,by omega,hown2,by simp;omega,hr256,HS.out.trans ((congrArg (fun m=>zC2 L at0 n m k s) (show L.length - k=L.length - (k+1)+1 by omega)).trans HON.out),hz1,hbe.trans (hb1.mono (by omega))⟩)
     clear hown hown1 hown2 hgr hb1 hz1 hr256 hs256 c0 hm1 hr HS HON HZ hbe
     go_wp2_with fail
     obtain⟨f1,f2,f3,f4,f5,f6,f7,f8⟩:=HF.out
     go_roundw
     case rel=>exact⟨k+1,_,f1,f2,by go_num,f3,f4,f5,f6,f7,f8⟩
     case measure=>simp[intOf];omega
   ·have HD:=Lib.hid (zMf (at0:=at0) (b0:=n) (n:=L.length - (k+1)) (s:=s) e1 e2)
    have hsz:=hz.lt
    clear hz
    have hconv:=zOU hown
    have hbs:=zIv s hs256
    generalize hstr:strOfNums (s.map fun b:Nat=>(b:Int))=str at hconv hbs
    clear hstr hown hs256 hm1
    go_wp2_with fail
    refine(zAL hr k 58 (by omega) rfl).mono ?_;rintro e w1 ⟨rfl,rfl⟩
    go_wp2_with fail
    refine(zAL hr (k+1) 93 (by omega) rfl).mono ?_;rintro e w1 ⟨rfl,rfl⟩
    go_wp2_with fail
    have hnm:=zMe str wr
    rw[hbs]at hnm
    have hlen:L.length - k=L.length - (k+1)+1:=by omega
    cases e3:zA5 s with
    |none=>
     have HE:Hid (zEB L at0 n=(Th.zero,some (31,n))):=by
      rw[hlen]at HS
      refine HS.out.trans (HD.out.trans ?_)
      rw[e3]
     rw[e3]at hnm
     simp only[Option.getD_none,Option.isSome_none]at hnm
     clear HS HD e3 hlen hbs
     refine hnm.mono ?_;rintro e w1 ⟨rfl,hb1⟩
     have hs1:w.heap.size<w1.heap.size:=Nat.lt_of_lt_of_le hsz hb1.size
     have hz1:zJr w1 w.heap.size:=(HZ.out.below hb1).is
     have hbe1:=hbe.trans (hb1.mono (by omega))
     obtain⟨z0,z1,z2,z3,z4,z5,z6⟩:=(HZ.out.below hb1).cells
     have f0:=zAF (HZ.out.below hb1)
     clear hb1 hbe
     go_wp2_with fail
     rw[zAN]
     rw[HE.out]
     exact zAm Tryz.results274 rfl rfl rfl hz1 (((Below.refl _ _).alloc (by simp[zAO];omega) _).alloc (by simp[zAO];omega) _) rfl (zC1 (e:=31) (by simp[zAO]) (by simp[zAO];omega)) hbe1 (Nat.le_refl _)
    |some c=>
     have HE:Hid (zEB L at0 n=(⟨c,0,false,k+2⟩,none)):=by
      rw[hlen]at HS
      refine HS.out.trans (HD.out.trans ?_)
      rw[e3]
     rw[e3]at hnm
     simp only[Option.getD_some,Option.isSome_some]at hnm
     clear HS HD e3 hlen hbs
     refine hnm.mono ?_;rintro e w1 ⟨rfl,hb1⟩
     have hs1:w.heap.size<w1.heap.size:=Nat.lt_of_lt_of_le hsz hb1.size
     have hz1:zJr w1 w.heap.size:=(HZ.out.below hb1).is
     have hbe1:=hbe.trans (hb1.mono (by omega))
     obtain⟨z0,z1,z2,z3,z4,z5,z6⟩:=(HZ.out.below hb1).cells
     have f0:=zAF (HZ.out.below hb1)
     clear hb1 hbe
     go_wp2_with fail
     rw[zAN]
     rw[HE.out]
     exact zAm Tryz.results274 rfl rfl rfl hz1 ((Below.refl _ _).alloc (by simp[zAO];omega) _) rfl rfl hbe1 (Nat.le_refl _)
  ·have hsz:=hz.lt
   clear hz
   have HE:Hid (zEB L at0 n=(Th.zero,some (32,at0))):=by
    refine HS.out.trans ?_
    rw[show L.length - k=0 by omega]
    rfl
   clear HS
   go_wp2_with fail
   refine(zEn hr).mono ?_;rintro e w1 ⟨v,rfl,hf,hb1⟩
   have hs1:w.heap.size<w1.heap.size:=Nat.lt_of_lt_of_le hsz hb1.size
   have hz1:zJr w1 w.heap.size:=(HZ.out.below hb1).is
   have hbe1:=hbe.trans (hb1.mono (by omega))
   obtain⟨z0,z1,z2,z3,z4,z5,z6⟩:=(HZ.out.below hb1).cells
   have f0:=zAF (HZ.out.below hb1)
   have HF:=Lib.hid hf
   clear hbe hf hb1
   go_wp2_with fail
   rw[zAN]
   rw[HE.out]
   exact zAm Tryz.results274 rfl rfl rfl hz1 (Below.refl _ _) rfl ((HF.out.set hsz _ _ _ _ _ _ _).mono (Nat.le_of_lt hsz)) hbe1 (Nat.le_refl _)
end
section
open Go.RowKit
theorem zHq (a b:Nat):((a:Int)==(b:Int))=(a==b):=by
 rw[Bool.eq_iff_iff];simp;omega
theorem zFZ {rb mb mo cap:Nat} {L:List Mk} {at0:Nat} {w:World} (h:Br w rb mb mo cap L at0) {b c:Int} (n k:Nat) (hbi:b=n) (hck:c=k) (hn:n+1<L.length):
  Calls Tryz.prog 275 #[.pointer (some ⟨rb,0,none⟩),.int .i64 b,.int .u8 c] w (zNV (zAk L at0 n k) w):=by
 subst hbi
 subst hck
 have hL:=h.m.len
 have hrb:=h.lt
 have h1:=h.below ((Below.refl _ _).alloc (Nat.le_refl _) (.cells #[.int .u64 0,.int .u64 0,.int .u64 0,.int .u64 0,.int .u8 0,.bool false,.int .i64 0] 291))
 have hz:zFc (w.alloc (.cells #[.int .u64 0,.int .u64 0,.int .u64 0,.int .u64 0,.int .u8 0,.bool false,.int .i64 0] 291)) w.heap.size Th.zero:=heap_alloc_new w _
 have hb0:Below w.heap.size w (w.alloc (.cells #[.int .u64 0,.int .u64 0,.int .u64 0,.int .u64 0,.int .u8 0,.bool false,.int .i64 0] 291)):=(by repeat (first|exact Below.refl _ _|assumption|refine Below.drew ?_|refine Below.alloc ?_ (by first|(simp;done)|(simp;omega)|omega) _|refine Below.setCell ?_ (by first|(simp;done)|(simp;omega)|omega) _))
 have hs0:w.heap.size<(w.alloc (.cells #[.int .u64 0,.int .u64 0,.int .u64 0,.int .u64 0,.int .u8 0,.bool false,.int .i64 0] 291)).heap.size:=by simp
 go_enter Tryz.func275,Tryz.ntmps275
 go_wp2_with fail
 revert h1 hz hb0 hs0
 generalize w.alloc (.cells #[.int .u64 0,.int .u64 0,.int .u64 0,.int .u64 0,.int .u8 0,.bool false,.int .i64 0] 291)=wr
 intro h1 hz hb0 hs0
 have c0:=h1.c0
 have hrb':=h1.lt
 have his:=hz.is
 obtain⟨z0,z1,z2,z3,z4,z5,z6⟩:=hz.cells
 have f0:=zAF hz
 have HZ:=Lib.hid hz
 clear hz
 have i0: ∀w,(Instr.index 323 (.agg #[.int .u8 (k:Nat),.int .u8 93]) (.int .i64 0)).run Tryz.prog w= .ok (.int .u8 (k:Nat)) w:=fun _=>by kernel_rfl
 have i1: ∀w,(Instr.index 323 (.agg #[.int .u8 (k:Nat),.int .u8 93]) (.int .i64 1)).run Tryz.prog w= .ok (.int .u8 93) w:=fun _=>by kernel_rfl
 have hle:=hb0.size
 refine wp_loop_rounds 3 ?_
 by_cases g1:L.length≤n+3
 ·have HE:Hid (zAk L at0 n k=(Th.zero,some (32,at0))):=by simp[Hid,zAk,g1]
  rw[rounds_succ]
  go_wp2_with fail
  refine(zEn h1).mono ?_;rintro e w1 ⟨v,rfl,hf,hb1⟩
  have hf1:=hf.mono hb0.size
  have hbe1:=hb0.trans (hb1.mono hb0.size)
  have hz1:=HZ.out.below hb1
  have his1:=hz1.is
  obtain⟨z0,z1,z2,z3,z4,z5,z6⟩:=hz1.cells
  have f0:=zAF hz1
  have HF:=Lib.hid hf
  clear hf hf1 hb1 hz1
  go_wp2_with fail
  rw[zAN]
  rw[HE.out]
  exact zAm Tryz.results275 rfl rfl rfl his1 (Below.refl _ _) rfl ((HF.out.set hs0 _ _ _ _ _ _ _).mono hb0.size) hbe1 (Nat.le_refl _)
 ·cases e1:signAt L (n+3) k with
  |false=>
   have HE:Hid (zAk L at0 n k=(Th.zero,some (31,n))):=by simp[Hid,zAk,g1,e1]
   rw[rounds_succ]
   go_wp2_with fail
   refine(zAL h1 (n+3) k (by omega) rfl).mono ?_;rintro e w1 ⟨rfl,rfl⟩
   go_wp2_with fail
   rw[zAN]
   rw[HE.out]
   exact zAm Tryz.results275 rfl rfl rfl his ((Below.refl _ _).alloc (by simp[zAO];omega) _) rfl (zC1 (e:=31) (by simp[zAO]) (by simp[zAO];omega)) hb0 (Nat.le_refl _)
  |true=>
   by_cases g2:L.length≤n+4
   ·have HE:Hid (zAk L at0 n k=(Th.zero,some (32,at0))):=by simp[Hid,zAk,g1,e1,g2]
    rw[rounds_succ]
    go_wp2_with fail
    refine(zAL h1 (n+3) k (by omega) rfl).mono ?_;rintro e w1 ⟨rfl,rfl⟩
    go_wp2_with fail
    rw[rounds_succ]
    go_wp2_with fail
    refine(zEn h1).mono ?_;rintro e w1 ⟨v,rfl,hf,hb1⟩
    have hf1:=hf.mono hb0.size
    have hbe1:=hb0.trans (hb1.mono hb0.size)
    have hz1:=HZ.out.below hb1
    have his1:=hz1.is
    obtain⟨z0,z1,z2,z3,z4,z5,z6⟩:=hz1.cells
    have f0:=zAF hz1
    have HF:=Lib.hid hf
    clear hf hf1 hb1 hz1
    go_wp2_with fail
    rw[zAN]
    rw[HE.out]
    exact zAm Tryz.results275 rfl rfl rfl his1 (Below.refl _ _) rfl ((HF.out.set hs0 _ _ _ _ _ _ _).mono hb0.size) hbe1 (Nat.le_refl _)
   ·cases e2:signAt L (n+4) 93 with
    |false=>
     have HE:Hid (zAk L at0 n k=(Th.zero,some (31,n))):=by simp[Hid,zAk,g1,e1,g2,e2]
     rw[rounds_succ]
     go_wp2_with fail
     refine(zAL h1 (n+3) k (by omega) rfl).mono ?_;rintro e w1 ⟨rfl,rfl⟩
     go_wp2_with fail
     rw[rounds_succ]
     go_wp2_with fail
     refine(zAL h1 (n+4) 93 (by omega) rfl).mono ?_;rintro e w1 ⟨rfl,rfl⟩
     go_wp2_with fail
     rw[zAN]
     rw[HE.out]
     exact zAm Tryz.results275 rfl rfl rfl his ((Below.refl _ _).alloc (by simp[zAO];omega) _) rfl (zC1 (e:=31) (by simp[zAO]) (by simp[zAO];omega)) hb0 (Nat.le_refl _)
    |true=>
     have HE:Hid (zAk L at0 n k=(⟨Cls.of [(zAH L (n+2)).b],(zAH L (n+2)).b,k==46,n+5⟩,none)):=by simp[Hid,zAk,g1,e1,g2,e2]
     have hm2:=h1.m.b (n+2) (by omega)
     have hu2:=h1.m.u (n+2) (by omega)
     have hmb:=h1.m.lt
     rw[rounds_succ]
     go_wp2_with fail
     refine(zAL h1 (n+3) k (by omega) rfl).mono ?_;rintro e w1 ⟨rfl,rfl⟩
     go_wp2_with fail
     rw[rounds_succ]
     go_wp2_with fail
     refine(zAL h1 (n+4) 93 (by omega) rfl).mono ?_;rintro e w1 ⟨rfl,rfl⟩
     go_wp2_with fail
     rw[rounds_succ]
     go_wp2_with fail
     refine(zEo [(zAH L (n+2)).b] #[.int .u8 (zAH L (n+2)).b] rfl (by simpa using hu2) (by simp) _).mono ?_;rintro e w1 ⟨rfl,hb1⟩
     have hb2:Below wr.heap.size wr w1:=Below.trans (by repeat (first|exact Below.refl _ _|assumption|refine Below.drew ?_|refine Below.alloc ?_ (by first|(simp;done)|(simp;omega)|omega) _|refine Below.setCell ?_ (by first|(simp;done)|(simp;omega)|omega) _)) (hb1.mono (by simp))
     have hbe1:=hb0.trans (hb2.mono hb0.size)
     have hz1:=HZ.out.below hb2
     have his1:=hz1.is
     obtain⟨z0,z1,z2,z3,z4,z5,z6⟩:=hz1.cells
     have f0:=zAF hz1
     clear hb1 hb2 hz1
     go_wp2_with fail
     rw[zAN]
     rw[HE.out]
     exact zAm Tryz.results275 rfl rfl rfl his1 (Below.refl _ _) (by rw[show((k:Int)==46)=(k==46)from zHq k 46];rfl) rfl hbe1 (Nat.le_refl _)
theorem zEb {rb mb mo cap:Nat} {L:List Mk} {at0:Nat} {w:World} (h:Br w rb mb mo cap L at0) {b:Int} (n:Nat) (hbi:b=n) (hn:n≤65536):
  Calls Tryz.prog 262 #[.pointer (some ⟨rb,0,none⟩),.int .i64 b] w (zNV (zAl L at0 n) w):=by
 subst hbi
 have hL:=h.m.len
 have hrb:=h.lt
 have h1:=h.below ((Below.refl _ _).alloc (Nat.le_refl _) (.cells #[.int .u64 0,.int .u64 0,.int .u64 0,.int .u64 0,.int .u8 0,.bool false,.int .i64 0] 291))
 have hz:zFc (w.alloc (.cells #[.int .u64 0,.int .u64 0,.int .u64 0,.int .u64 0,.int .u8 0,.bool false,.int .i64 0] 291)) w.heap.size Th.zero:=heap_alloc_new w _
 have hb0:Below w.heap.size w (w.alloc (.cells #[.int .u64 0,.int .u64 0,.int .u64 0,.int .u64 0,.int .u8 0,.bool false,.int .i64 0] 291)):=(by repeat (first|exact Below.refl _ _|assumption|refine Below.drew ?_|refine Below.alloc ?_ (by first|(simp;done)|(simp;omega)|omega) _|refine Below.setCell ?_ (by first|(simp;done)|(simp;omega)|omega) _))
 have hs0:w.heap.size<(w.alloc (.cells #[.int .u64 0,.int .u64 0,.int .u64 0,.int .u64 0,.int .u8 0,.bool false,.int .i64 0] 291)).heap.size:=by simp
 go_enter Tryz.func262,Tryz.ntmps262
 go_upto_region 1 with fail
 revert h1 hz hb0 hs0
 generalize w.alloc (.cells #[.int .u64 0,.int .u64 0,.int .u64 0,.int .u64 0,.int .u8 0,.bool false,.int .i64 0] 291)=wr
 intro h1 hz hb0 hs0
 have c0:=h1.c0
 have hrb':=h1.lt
 have his:=hz.is
 obtain⟨z0,z1,z2,z3,z4,z5,z6⟩:=hz.cells
 have f0:=zAF hz
 have HZ:=Lib.hid hz
 clear hz
 have hle:=hb0.size
 by_cases g1:L.length≤n
 ·have HE:Hid (zAl L at0 n=(Th.zero,some (32,at0))):=by simp[Hid,zAl,g1]
  go_wp2_with fail
  refine(zEn h1).mono ?_;rintro e w1 ⟨v,rfl,hf,hb1⟩
  have hbe1:=hb0.trans (hb1.mono hle)
  have hz1:=HZ.out.below hb1
  have his1:=hz1.is
  obtain⟨z0,z1,z2,z3,z4,z5,z6⟩:=hz1.cells
  have f0:=zAF hz1
  have HF:=Lib.hid hf
  clear hf hb1 hz1
  go_wp2_with fail
  rw[zAN]
  rw[HE.out]
  exact zAm Tryz.results262 rfl rfl rfl his1 (Below.refl _ _) rfl ((HF.out.set hs0 _ _ _ _ _ _ _).mono hle) hbe1 (Nat.le_refl _)
 ·have hm:=h1.m.b n (by omega)
  have hu:=h1.m.u n (by omega)
  have hmb:=h1.m.lt
  cases e1:signAt L n 91 with
  |false=>
   have HE:Hid (zAl L at0 n=(⟨Cls.of [(zAH L n).b],(zAH L n).b,true,n+1⟩,none)):=by simp[Hid,zAl,g1,e1]
   go_wp2_with fail
   refine(zAL h1 n 91 rfl rfl).mono ?_;rintro e w1 ⟨rfl,rfl⟩
   go_wp2_with fail
   refine(zEo [(zAH L n).b] #[.int .u8 (zAH L n).b] rfl (by simpa using hu) (by simp) _).mono ?_;rintro e w1 ⟨rfl,hb1⟩
   have hb2:Below wr.heap.size wr w1:=Below.trans (by repeat (first|exact Below.refl _ _|assumption|refine Below.drew ?_|refine Below.alloc ?_ (by first|(simp;done)|(simp;omega)|omega) _|refine Below.setCell ?_ (by first|(simp;done)|(simp;omega)|omega) _)) (hb1.mono (by simp))
   have hbe1:=hb0.trans (hb2.mono hle)
   have hz1:=HZ.out.below hb2
   have his1:=hz1.is
   obtain⟨z0,z1,z2,z3,z4,z5,z6⟩:=hz1.cells
   have f0:=zAF hz1
   clear hb1 hb2 hz1
   go_wp2_with fail
   rw[zAN]
   rw[HE.out]
   exact zAm Tryz.results262 rfl rfl rfl his1 (Below.refl _ _) rfl rfl hbe1 (Nat.le_refl _)
  |true=>
   by_cases g2:n+1<L.length
   ·have hm1:=h1.m.b (n+1) g2
    have hp1:=h1.m.p (n+1) g2
    cases e2:(zAH L (n+1)).p with
    |true=>
     have HE:Hid (zAl L at0 n=(⟨Cls.of [(zAH L n).b],(zAH L n).b,true,n+1⟩,none)):=by simp[Hid,zAl,g1,e1,e2]
     rw[e2]at hp1
     go_wp2_with fail
     refine(zAL h1 n 91 rfl rfl).mono ?_;rintro e w1 ⟨rfl,rfl⟩
     go_wp2_with fail
     refine(zEo [(zAH L n).b] #[.int .u8 (zAH L n).b] rfl (by simpa using hu) (by simp) _).mono ?_;rintro e w1 ⟨rfl,hb1⟩
     have hb2:Below wr.heap.size wr w1:=Below.trans (by repeat (first|exact Below.refl _ _|assumption|refine Below.drew ?_|refine Below.alloc ?_ (by first|(simp;done)|(simp;omega)|omega) _|refine Below.setCell ?_ (by first|(simp;done)|(simp;omega)|omega) _)) (hb1.mono (by simp))
     have hbe1:=hb0.trans (hb2.mono hle)
     have hz1:=HZ.out.below hb2
     have his1:=hz1.is
     obtain⟨z0,z1,z2,z3,z4,z5,z6⟩:=hz1.cells
     have f0:=zAF hz1
     clear hb1 hb2 hz1
     go_wp2_with fail
     rw[zAN]
     rw[HE.out]
     exact zAm Tryz.results262 rfl rfl rfl his1 (Below.refl _ _) rfl rfl hbe1 (Nat.le_refl _)
    |false=>
     rw[e2]at hp1
     by_cases q1:(zAH L (n+1)).b=58
     ·have HE:Hid (zAl L at0 n=zEB L at0 n):=by simp[Hid,zAl,g1,g2,e1,e2,q1]
      have t1:(((zAH L (n+1)).b:Int)==58)=true:=by rw[q1];rfl
      clear q1
      go_wp2_with fail
      refine(zAL h1 n 91 rfl rfl).mono ?_;rintro e w1 ⟨rfl,rfl⟩
      go_wp2_with fail
      refine(zN4 h1 n rfl g2).mono ?_;rintro e w1 ⟨v,rfl,hf,hb1⟩
      have hbe1:=hb0.trans (hb1.mono hle)
      have hz1:=HZ.out.below hb1
      have his1:=hz1.is
      obtain⟨z0,z1,z2,z3,z4,z5,z6⟩:=hz1.cells
      have f0:=zAF hz1
      have HF:=Lib.hid hf
      clear hf hb1 hz1
      go_wp2_with fail
      rw[zAN]
      rw[HE.out]
      exact zAm Tryz.results262 rfl rfl rfl his1 (Below.refl _ _) rfl ((HF.out.set hs0 _ _ _ _ _ _ _).mono hle) hbe1 (Nat.le_refl _)
     ·have t1:(((zAH L (n+1)).b:Int)==58)=false:=(show(((zAH L (n+1)).b:Int)==58)=((zAH L (n+1)).b==58)from zHq _ 58).trans (by simpa using q1)
      by_cases q2:(zAH L (n+1)).b=61
      ·have HE:Hid (zAl L at0 n=zAk L at0 n (zAH L (n+1)).b):=by simp[Hid,zAl,g1,g2,e1,e2,q2]
       have t2:(((zAH L (n+1)).b:Int)==61)=true:=by rw[q2];rfl
       clear q1 q2
       go_wp2_with fail
       refine(zAL h1 n 91 rfl rfl).mono ?_;rintro e w1 ⟨rfl,rfl⟩
       go_wp2_with fail
       refine(zFZ h1 n _ rfl rfl g2).mono ?_;rintro e w1 ⟨v,rfl,hf,hb1⟩
       have hbe1:=hb0.trans (hb1.mono hle)
       have hz1:=HZ.out.below hb1
       have his1:=hz1.is
       obtain⟨z0,z1,z2,z3,z4,z5,z6⟩:=hz1.cells
       have f0:=zAF hz1
       have HF:=Lib.hid hf
       clear hf hb1 hz1
       go_wp2_with fail
       rw[zAN]
       rw[HE.out]
       exact zAm Tryz.results262 rfl rfl rfl his1 (Below.refl _ _) rfl ((HF.out.set hs0 _ _ _ _ _ _ _).mono hle) hbe1 (Nat.le_refl _)
      ·have t2:(((zAH L (n+1)).b:Int)==61)=false:=(show(((zAH L (n+1)).b:Int)==61)=((zAH L (n+1)).b==61)from zHq _ 61).trans (by simpa using q2)
       by_cases q3:(zAH L (n+1)).b=46
       ·have HE:Hid (zAl L at0 n=zAk L at0 n (zAH L (n+1)).b):=by simp[Hid,zAl,g1,g2,e1,e2,q3]
        have t3:(((zAH L (n+1)).b:Int)==46)=true:=by rw[q3];rfl
        clear q1 q2 q3
        go_wp2_with fail
        refine(zAL h1 n 91 rfl rfl).mono ?_;rintro e w1 ⟨rfl,rfl⟩
        go_wp2_with fail
        refine(zFZ h1 n _ rfl rfl g2).mono ?_;rintro e w1 ⟨v,rfl,hf,hb1⟩
        have hbe1:=hb0.trans (hb1.mono hle)
        have hz1:=HZ.out.below hb1
        have his1:=hz1.is
        obtain⟨z0,z1,z2,z3,z4,z5,z6⟩:=hz1.cells
        have f0:=zAF hz1
        have HF:=Lib.hid hf
        clear hf hb1 hz1
        go_wp2_with fail
        rw[zAN]
        rw[HE.out]
        exact zAm Tryz.results262 rfl rfl rfl his1 (Below.refl _ _) rfl ((HF.out.set hs0 _ _ _ _ _ _ _).mono hle) hbe1 (Nat.le_refl _)
       ·have t3:(((zAH L (n+1)).b:Int)==46)=false:=(show(((zAH L (n+1)).b:Int)==46)=((zAH L (n+1)).b==46)from zHq _ 46).trans (by simpa using q3)
        have HE:Hid (zAl L at0 n=(⟨Cls.of [(zAH L n).b],(zAH L n).b,true,n+1⟩,none)):=by simp[Hid,zAl,g1,e1,e2,q1,q2,q3]
        clear q1 q2 q3
        go_wp2_with fail
        refine(zAL h1 n 91 rfl rfl).mono ?_;rintro e w1 ⟨rfl,rfl⟩
        go_wp2_with fail
        refine(zEo [(zAH L n).b] #[.int .u8 (zAH L n).b] rfl (by simpa using hu) (by simp) _).mono ?_;rintro e w1 ⟨rfl,hb1⟩
        have hb2:Below wr.heap.size wr w1:=Below.trans (by repeat (first|exact Below.refl _ _|assumption|refine Below.drew ?_|refine Below.alloc ?_ (by first|(simp;done)|(simp;omega)|omega) _|refine Below.setCell ?_ (by first|(simp;done)|(simp;omega)|omega) _)) (hb1.mono (by simp))
        have hbe1:=hb0.trans (hb2.mono hle)
        have hz1:=HZ.out.below hb2
        have his1:=hz1.is
        obtain⟨z0,z1,z2,z3,z4,z5,z6⟩:=hz1.cells
        have f0:=zAF hz1
        clear hb1 hb2 hz1
        go_wp2_with fail
        rw[zAN]
        rw[HE.out]
        exact zAm Tryz.results262 rfl rfl rfl his1 (Below.refl _ _) rfl rfl hbe1 (Nat.le_refl _)
   ·have HE:Hid (zAl L at0 n=(⟨Cls.of [(zAH L n).b],(zAH L n).b,true,n+1⟩,none)):=by simp[Hid,zAl,g1,e1,g2]
    go_wp2_with fail
    refine(zAL h1 n 91 rfl rfl).mono ?_;rintro e w1 ⟨rfl,rfl⟩
    go_wp2_with fail
    refine(zEo [(zAH L n).b] #[.int .u8 (zAH L n).b] rfl (by simpa using hu) (by simp) _).mono ?_;rintro e w1 ⟨rfl,hb1⟩
    have hb2:Below wr.heap.size wr w1:=Below.trans (by repeat (first|exact Below.refl _ _|assumption|refine Below.drew ?_|refine Below.alloc ?_ (by first|(simp;done)|(simp;omega)|omega) _|refine Below.setCell ?_ (by first|(simp;done)|(simp;omega)|omega) _)) (hb1.mono (by simp))
    have hbe1:=hb0.trans (hb2.mono hle)
    have hz1:=HZ.out.below hb2
    have his1:=hz1.is
    obtain⟨z0,z1,z2,z3,z4,z5,z6⟩:=hz1.cells
    have f0:=zAF hz1
    clear hb1 hb2 hz1
    go_wp2_with fail
    rw[zAN]
    rw[HE.out]
    exact zAm Tryz.results262 rfl rfl rfl his1 (Below.refl _ _) rfl rfl hbe1 (Nat.le_refl _)
end
section
open Go.RowKit
theorem Flt.drew {base:Nat} {w:World} {v:Value} {f:Option (Nat × Nat)} (h:Flt base w v f):Flt base w.drew v f:=h.below (Below.refl _ _).drew
theorem zFn {rb mb mo cap:Nat} {L:List Mk} {at0:Nat} {w:World} (h:Br w rb mb mo cap L at0) {b:Int} (n:Nat) (hbi:b=n) (hn:n≤65530) (first:Bool):
  Calls Tryz.prog 246 #[.pointer (some ⟨rb,0,none⟩),.int .i64 b,.bool first] w (zNV (zAp L at0 n first) w):=by
 subst hbi
 have hL:=h.m.len
 have h0:=h.below ((Below.refl _ _).alloc (Nat.le_refl _) (.cells #[.int .u64 0,.int .u64 0,.int .u64 0,.int .u64 0,.int .u8 0,.bool false,.int .i64 0] 291))
 have hz0:zFc (w.alloc (.cells #[.int .u64 0,.int .u64 0,.int .u64 0,.int .u64 0,.int .u8 0,.bool false,.int .i64 0] 291)) w.heap.size Th.zero:=heap_alloc_new w _
 go_enter Tryz.func246,Tryz.ntmps246
 go_wp2_with fail
 refine(zEb h0 n rfl (by omega)).mono ?_;rintro e w1 ⟨v,rfl,hf,hb1⟩
 generalize hth:zAl L at0 n=r at*
 obtain⟨a,fa⟩:=r
 have HT:=Lib.hid hth
 clear hth
 simp only at hf
 have hbw:Below w.heap.size w w1:=Below.trans (by repeat (first|exact Below.refl _ _|assumption|refine Below.drew ?_|refine Below.alloc ?_ (by first|(simp;done)|(simp;omega)|omega) _|refine Below.setCell ?_ (by first|(simp;done)|(simp;omega)|omega) _)) (hb1.mono (by simp))
 have hz1:=hz0.below hb1
 have h1:=h0.below hb1
 have hs1:w.heap.size<w1.heap.size:=by have:=hb1.size;simp at this;omega
 have hfw:Flt (w.heap.size+1) w1 v fa:=by simpa using hf
 clear hf hz0 h0 hb1
 go_upto_region 2 with fail
 have hx:zFc (w1.alloc (.cells #[.int .u64 a.set.w0.toNat,.int .u64 a.set.w1.toNat,.int .u64 a.set.w2.toNat,.int .u64 a.set.w3.toNat,.int .u8 (a.b:Nat),.bool a.fin,.int .i64 (a.next:Nat)] 291)) w1.heap.size a:=heap_alloc_new w1 _
 have hbx:Below w1.heap.size w1 (w1.alloc (.cells #[.int .u64 a.set.w0.toNat,.int .u64 a.set.w1.toNat,.int .u64 a.set.w2.toNat,.int .u64 a.set.w3.toNat,.int .u8 (a.b:Nat),.bool a.fin,.int .i64 (a.next:Nat)] 291)):=(Below.refl _ _).alloc (Nat.le_refl _) _
 have hsx:w1.heap.size<(w1.alloc (.cells #[.int .u64 a.set.w0.toNat,.int .u64 a.set.w1.toNat,.int .u64 a.set.w2.toNat,.int .u64 a.set.w3.toNat,.int .u8 (a.b:Nat),.bool a.fin,.int .i64 (a.next:Nat)] 291)).heap.size:=by simp
 revert hx hbx hsx
 generalize w1.alloc (.cells #[.int .u64 a.set.w0.toNat,.int .u64 a.set.w1.toNat,.int .u64 a.set.w2.toNat,.int .u64 a.set.w3.toNat,.int .u8 (a.b:Nat),.bool a.fin,.int .i64 (a.next:Nat)] 291)=wx
 intro hx hbx hsx
 have hb0:Below w.heap.size w wx:=hbw.trans (hbx.mono (by omega))
 have h1:=h1.below hbx
 have hz1:=hz1.below hbx
 have his:=hz1.is
 have hfx:=hfw.below hbx
 have HX:=Lib.hid hx
 have HZ:=Lib.hid hz1
 obtain⟨z0,z1,z2,z3,z4,z5,z6⟩:=hz1.cells
 have f0:=zAF hz1
 obtain⟨x0,x1,x2,x3,x4,x5,x6⟩:=hx.cells
 have hle:=hb0.size
 have hlx:w.heap.size<wx.heap.size:=by omega
 have c0:=h1.c0
 have hrb:=h1.lt
 clear hbw hz1 hfw hbx hx
 generalize w1.heap.size=b8 at*
 cases fa with
 |some f=>
  have HE:Hid (zAp L at0 n first=(a,some f)):=by simp only[Hid,zAp,HT.out]
  obtain⟨fe,fat⟩:=f
  obtain⟨fb,rfl,hfge,hflt,hfc0,hfc1⟩:=hfx
  have hfl:Hid (Flt (w.heap.size+1) wx (.pointer (some ⟨fb,0,none⟩)) (some (fe,fat))):=⟨fb,rfl,hfge,hflt,hfc0,hfc1⟩
  clear hfc0 hfc1
  go_wp2_with fail
  rw[zAN]
  rw[HE.out]
  exact zAm Tryz.results246 rfl rfl rfl his (Below.refl _ _) rfl ((hfl.out.set (Nat.lt_succ_self _) _ _ _ _ _ _ _).mono (Nat.le_succ _)) hb0 (Nat.le_refl _)
 |none=>
  have hv:v= .pointer none:=hfx
  subst hv
  clear hfx
  obtain⟨hn1,hn2,hab⟩:=zB4 HT.out h1.m.u
  have hIT:Hid (zAp L at0 n first=if signAt L n 45&& !first&& !signAt L (n+1) 93 then
    if L.length≤n+1 then(a,some (32,at0))else(a,some (30,n))
   else if !signAt L a.next 45||decide (L.length≤a.next+1)||signAt L (a.next+1) 93 then(a,none)
   else if !a.fin then(a,some (30,n))
   else match zAl L at0 (a.next+1)with
    |(b,some f)=>(b,some f)
    |(b,none)=>if !b.fin||decide (b.b<a.b)then(b,some (30,n))else(⟨Cls.range a.b b.b,0,false,b.next⟩,none)):=by
   simp only[Hid,zAp,HT.out];rfl
  cases e1:signAt L n 45 with
  |false=>
   go_wp2_with fail
   refine(zAL h1 (n) 45 (rfl) rfl).mono ?_;rintro e ww ⟨rfl,rfl⟩
   cases e3:signAt L a.next 45 with
   |false=>
    have HE:Hid (zAp L at0 n first=(a,none)):=hIT.out.trans (by simp[e1,e3])
    go_wp2_with fail
    refine zAA (X:=none) 23 [([0,1,2],3),([4,5,6,7,8,9,10,11,12,13,14,15,16,17,18,19,20],21)] [22] (by kernel_rfl) (by kernel_rfl) rfl (fun _ _ _ _ _ h=>h) ?_
    simp only[zAM,zAC,zAE,zAD,zAB,List.getD_cons_zero,List.getD_cons_succ,List.drop_succ_cons,List.drop_nil]
    repeat (go_big_quiet_step (fail))
    refine wpQuiet_nil ?_
    go_wp2_with fail
    refine(zAL (h1.below (Below.refl _ _).drew) (a.next) 45 (rfl) rfl).mono ?_;rintro e ww ⟨rfl,rfl⟩
    go_wp2_with fail
    refine⟨zAI.refl _,?_⟩
    repeat (go_big_quiet_step (fail))
    refine wpQuiet_nil ?_
    go_wp2_with fail
    refine⟨zAI.refl _,?_⟩
    repeat (go_big_quiet_step (fail))
    refine wpQuiet_nil ?_
    go_wp2_with fail
    rw[zAN]
    rw[HE.out]
    exact zAm Tryz.results246 rfl rfl rfl his (Below.refl _ _).drew rfl rfl hb0 (Nat.le_refl _)
   |true=>
    by_cases g2:L.length≤a.next+1
    ·
     have t2:decide ((L.length:Int)≤(a.next:Int)+1)=true:=by simp;omega
     have HE:Hid (zAp L at0 n first=(a,none)):=hIT.out.trans (by simp[e1,e3,g2])
     go_wp2_with fail
     refine zAA (X:=none) 23 [([0,1,2],3),([4,5,6,7,8,9,10,11,12,13,14,15,16,17,18,19,20],21)] [22] (by kernel_rfl) (by kernel_rfl) rfl (fun _ _ _ _ _ h=>h) ?_
     simp only[zAM,zAC,zAE,zAD,zAB,List.getD_cons_zero,List.getD_cons_succ,List.drop_succ_cons,List.drop_nil]
     repeat (go_big_quiet_step (fail))
     refine wpQuiet_nil ?_
     go_wp2_with fail
     refine(zAL (h1.below (Below.refl _ _).drew) (a.next) 45 (rfl) rfl).mono ?_;rintro e ww ⟨rfl,rfl⟩
     go_wp2_with fail
     refine⟨zAI.refl _,?_⟩
     repeat (go_big_quiet_step (fail))
     refine wpQuiet_nil ?_
     go_wp2_with fail
     refine⟨zAI.refl _,?_⟩
     repeat (go_big_quiet_step (fail))
     refine wpQuiet_nil ?_
     go_wp2_with fail
     rw[zAN]
     rw[HE.out]
     exact zAm Tryz.results246 rfl rfl rfl his (Below.refl _ _).drew rfl rfl hb0 (Nat.le_refl _)
    ·have t2:decide ((L.length:Int)≤(a.next:Int)+1)=false:=by simp;omega
     cases e4:signAt L (a.next+1) 93 with
     |true=>
      have HE:Hid (zAp L at0 n first=(a,none)):=hIT.out.trans (by simp[e1,e3,g2,e4])
      go_wp2_with fail
      refine zAA (X:=none) 23 [([0,1,2],3),([4,5,6,7,8,9,10,11,12,13,14,15,16,17,18,19,20],21)] [22] (by kernel_rfl) (by kernel_rfl) rfl (fun _ _ _ _ _ h=>h) ?_
      simp only[zAM,zAC,zAE,zAD,zAB,List.getD_cons_zero,List.getD_cons_succ,List.drop_succ_cons,List.drop_nil]
      repeat (go_big_quiet_step (fail))
      refine wpQuiet_nil ?_
      go_wp2_with fail
      refine(zAL (h1.below (Below.refl _ _).drew) (a.next) 45 (rfl) rfl).mono ?_;rintro e ww ⟨rfl,rfl⟩
      go_wp2_with fail
      refine⟨zAI.refl _,?_⟩
      repeat (go_big_quiet_step (fail))
      refine wpQuiet_nil ?_
      go_wp2_with fail
      refine(zAL (h1.below (Below.refl _ _).drew) (a.next+1) 93 (rfl) rfl).mono ?_;rintro e ww ⟨rfl,rfl⟩
      go_wp2_with fail
      refine⟨zAI.refl _,?_⟩
      repeat (go_big_quiet_step (fail))
      refine wpQuiet_nil ?_
      go_wp2_with fail
      rw[zAN]
      rw[HE.out]
      exact zAm Tryz.results246 rfl rfl rfl his (Below.refl _ _).drew rfl rfl hb0 (Nat.le_refl _)
     |false=>
      cases e5:a.fin with
      |false=>
       rw[e5]at x5
       have HE:Hid (zAp L at0 n first=(a,some (30,n))):=hIT.out.trans (by simp[e1,e3,g2,e4,e5])
       go_wp2_with fail
       refine zAA (X:=none) 23 [([0,1,2],3),([4,5,6,7,8,9,10,11,12,13,14,15,16,17,18,19,20],21)] [22] (by kernel_rfl) (by kernel_rfl) rfl (fun _ _ _ _ _ h=>h) ?_
       simp only[zAM,zAC,zAE,zAD,zAB,List.getD_cons_zero,List.getD_cons_succ,List.drop_succ_cons,List.drop_nil]
       repeat (go_big_quiet_step (fail))
       refine wpQuiet_nil ?_
       go_wp2_with fail
       refine(zAL (h1.below (Below.refl _ _).drew) (a.next) 45 (rfl) rfl).mono ?_;rintro e ww ⟨rfl,rfl⟩
       go_wp2_with fail
       refine⟨zAI.refl _,?_⟩
       repeat (go_big_quiet_step (fail))
       refine wpQuiet_nil ?_
       go_wp2_with fail
       refine(zAL (h1.below (Below.refl _ _).drew) (a.next+1) 93 (rfl) rfl).mono ?_;rintro e ww ⟨rfl,rfl⟩
       go_wp2_with fail
       refine⟨zAI.refl _,?_⟩
       repeat (go_big_quiet_step (fail))
       refine wpQuiet_nil ?_
       go_wp2_with fail
       rw[zAN]
       rw[HE.out]
       exact zAm Tryz.results246 rfl rfl rfl his ((Below.refl _ _).alloc (by simp[zAO];omega) _).drew (by simp only[thV,e5]) (zC1 (e:=30) (by simp[zAO]) (by simp[zAO];omega)).drew hb0 (Nat.le_refl _)
      |true=>
       rw[e5]at x5
       go_wp2_with fail
       refine zAA (X:=none) 23 [([0,1,2],3),([4,5,6,7,8,9,10,11,12,13,14,15,16,17,18,19,20],21)] [22] (by kernel_rfl) (by kernel_rfl) rfl (fun _ _ _ _ _ h=>h) ?_
       simp only[zAM,zAC,zAE,zAD,zAB,List.getD_cons_zero,List.getD_cons_succ,List.drop_succ_cons,List.drop_nil]
       repeat (go_big_quiet_step (fail))
       refine wpQuiet_nil ?_
       go_wp2_with fail
       refine(zAL (h1.below (Below.refl _ _).drew) (a.next) 45 (rfl) rfl).mono ?_;rintro e ww ⟨rfl,rfl⟩
       go_wp2_with fail
       refine⟨zAI.refl _,?_⟩
       repeat (go_big_quiet_step (fail))
       refine wpQuiet_nil ?_
       go_wp2_with fail
       refine(zAL (h1.below (Below.refl _ _).drew) (a.next+1) 93 (rfl) rfl).mono ?_;rintro e ww ⟨rfl,rfl⟩
       go_wp2_with fail
       refine⟨zAI.refl _,?_⟩
       repeat (go_big_quiet_step (fail))
       refine wpQuiet_nil ?_
       go_wp2_with fail
       refine(zEb (h1.below (Below.refl _ _).drew) (a.next+1) (by omega) (by omega)).mono ?_;rintro e w2 ⟨v,rfl,hf,hb1⟩
       generalize hth2:zAl L at0 (a.next+1)=r2 at*
       obtain⟨c,fc⟩:=r2
       have HT2:=Lib.hid hth2
       clear hth2
       simp only at hf
       have hbd:Below wx.heap.size wx w2:=Below.trans (Below.refl _ _).drew hb1
       go_upto_region 13 with fail
       have hy:zFc (w2.alloc (.cells #[.int .u64 c.set.w0.toNat,.int .u64 c.set.w1.toNat,.int .u64 c.set.w2.toNat,.int .u64 c.set.w3.toNat,.int .u8 (c.b:Nat),.bool c.fin,.int .i64 (c.next:Nat)] 291)) w2.heap.size c:=heap_alloc_new w2 _
       have hby:Below w2.heap.size w2 (w2.alloc (.cells #[.int .u64 c.set.w0.toNat,.int .u64 c.set.w1.toNat,.int .u64 c.set.w2.toNat,.int .u64 c.set.w3.toNat,.int .u8 (c.b:Nat),.bool c.fin,.int .i64 (c.next:Nat)] 291)):=(Below.refl _ _).alloc (Nat.le_refl _) _
       have hsy:w2.heap.size<(w2.alloc (.cells #[.int .u64 c.set.w0.toNat,.int .u64 c.set.w1.toNat,.int .u64 c.set.w2.toNat,.int .u64 c.set.w3.toNat,.int .u8 (c.b:Nat),.bool c.fin,.int .i64 (c.next:Nat)] 291)).heap.size:=by simp
       revert hy hby hsy
       generalize w2.alloc (.cells #[.int .u64 c.set.w0.toNat,.int .u64 c.set.w1.toNat,.int .u64 c.set.w2.toNat,.int .u64 c.set.w3.toNat,.int .u8 (c.b:Nat),.bool c.fin,.int .i64 (c.next:Nat)] 291)=wy
       intro hy hby hsy
       have hbw2:Below wx.heap.size wx wy:=hbd.trans (hby.mono hbd.size)
       have hbe2:=hb0.trans (hbw2.mono hle)
       have hz2:=HZ.out.below hbw2
       have his2:=hz2.is
       clear z0 z1 z2 z3 z4 z5 z6 f0
       obtain⟨z0,z1,z2,z3,z4,z5,z6⟩:=hz2.cells
       have f0:=zAF hz2
       clear x0 x1 x2 x3 x4 x5 x6
       obtain⟨x0,x1,x2,x3,x4,x5,x6⟩:=(HX.out.below hbw2).cells
       obtain⟨y0,y1,y2,y3,y4,y5,y6⟩:=hy.cells
       have hfy:Flt wx.heap.size wy v fc:=(by exact hf:Flt wx.heap.size w2 v fc).below hby
       have hly:=hbw2.size
       have hlz:w.heap.size<wy.heap.size:=by omega
       have hlb:b8<wy.heap.size:=by omega
       have hlr:rb<wy.heap.size:=by omega
       clear hbd hby hz2 hf hb1 hy
       generalize w2.heap.size=b9 at*
       cases fc with
       |some f=>
        have HE:Hid (zAp L at0 n first=(c,some f)):=hIT.out.trans (by simp[e1,e3,g2,e4,e5])
        obtain⟨fe,fat⟩:=f
        obtain⟨fb,rfl,hfge,hflt,hfc0,hfc1⟩:=hfy
        have hfl:Hid (Flt wx.heap.size wy (.pointer (some ⟨fb,0,none⟩)) (some (fe,fat))):=⟨fb,rfl,hfge,hflt,hfc0,hfc1⟩
        clear hfc0 hfc1
        go_wp2_with fail
        rw[zAN]
        rw[HE.out]
        exact zAm Tryz.results246 rfl rfl rfl his2 (Below.refl _ _) rfl ((hfl.out.set hlx _ _ _ _ _ _ _).mono hle) hbe2 (Nat.le_refl _)
       |none=>
        have hv:v= .pointer none:=hfy
        subst hv
        clear hfy
        obtain⟨hc1,hc2,hcb⟩:=zB4 HT2.out h1.m.u
        cases e6:c.fin with
        |false=>
         rw[e6]at y5
         have HE:Hid (zAp L at0 n first=(c,some (30,n))):=hIT.out.trans (by simp[e1,e3,g2,e4,e5,e6])
         go_wp2_with fail
         rw[zAN]
         rw[HE.out]
         exact zAm Tryz.results246 rfl rfl rfl his2 ((Below.refl _ _).alloc (by simp[zAO];omega) _) (by simp only[thV,e6]) (zC1 (e:=30) (by simp[zAO]) (by simp[zAO];omega)) hbe2 (Nat.le_refl _)
        |true=>
         by_cases g3:c.b<a.b
         ·
          rw[e6]at y5
          have HE:Hid (zAp L at0 n first=(c,some (30,n))):=hIT.out.trans (by simp[e1,e3,g2,e4,e5,e6,g3])
          go_wp2_with fail
          rw[zAN]
          rw[HE.out]
          exact zAm Tryz.results246 rfl rfl rfl his2 ((Below.refl _ _).alloc (by simp[zAO];omega) _) (by simp only[thV,e6]) (zC1 (e:=30) (by simp[zAO]) (by simp[zAO];omega)) hbe2 (Nat.le_refl _)
         ·
          rw[e6]at y5
          have HE:Hid (zAp L at0 n first=(⟨Cls.range a.b c.b,0,false,c.next⟩,none)):=hIT.out.trans (by simp[e1,e3,g2,e4,e5,e6,g3])
          go_wp2_with fail
          refine zAA (X:=none) 8 [([0,1,2,3,5,6],4)] [7] (by kernel_rfl) (by kernel_rfl) rfl (fun _ _ _ _ _ h=>h) ?_
          simp only[zAM,zAC,zAE,zAD,zAB,List.getD_cons_zero,List.getD_cons_succ,List.drop_succ_cons,List.drop_zero]
          repeat (go_big_quiet_step (fail))
          refine wpQuiet_nil ?_
          go_wp2_with fail
          refine(zBB _ _ (by omega) (by omega) (by omega) (by omega) _).mono ?_;rintro e w3 ⟨rfl,hb3⟩
          have hkp:=zAI.of_below (X:=none) hb3
          replace hb3:Below wy.heap.size wy w3:=Below.trans (Below.refl _ _).drew hb3
          have hbe3:=hbe2.trans (hb3.mono (by omega))
          have hz3:=HZ.out.below (hbw2.trans (hb3.mono hly))
          have his3:=hz3.is
          clear z0 z1 z2 z3 z4 z5 z6 f0
          obtain⟨z0,z1,z2,z3,z4,z5,z6⟩:=hz3.cells
          have f0:=zAF hz3
          clear hz3
          go_wp2_with fail
          refine⟨hkp,?_⟩
          clear hkp
          repeat (go_big_quiet_step (fail))
          refine wpQuiet_nil ?_
          go_wp2_with fail
          rw[zAN]
          rw[HE.out]
          exact zAm Tryz.results246 rfl rfl rfl his3 (Below.refl _ _) rfl rfl hbe3 (Nat.le_refl _)
  |true=>
   cases first with
   |true=>
    go_wp2_with fail
    refine(zAL h1 (n) 45 (rfl) rfl).mono ?_;rintro e ww ⟨rfl,rfl⟩
    cases e3:signAt L a.next 45 with
    |false=>
     have HE:Hid (zAp L at0 n true=(a,none)):=hIT.out.trans (by simp[e1,e3])
     go_wp2_with fail
     refine zAA (X:=none) 23 [([0,1,2],3),([4,5,6,7,8,9,10,11,12,13,14,15,16,17,18,19,20],21)] [22] (by kernel_rfl) (by kernel_rfl) rfl (fun _ _ _ _ _ h=>h) ?_
     simp only[zAM,zAC,zAE,zAD,zAB,List.getD_cons_zero,List.getD_cons_succ,List.drop_succ_cons,List.drop_nil]
     repeat (go_big_quiet_step (fail))
     refine wpQuiet_nil ?_
     go_wp2_with fail
     refine(zAL (h1.below (Below.refl _ _).drew) (a.next) 45 (rfl) rfl).mono ?_;rintro e ww ⟨rfl,rfl⟩
     go_wp2_with fail
     refine⟨zAI.refl _,?_⟩
     repeat (go_big_quiet_step (fail))
     refine wpQuiet_nil ?_
     go_wp2_with fail
     refine⟨zAI.refl _,?_⟩
     repeat (go_big_quiet_step (fail))
     refine wpQuiet_nil ?_
     go_wp2_with fail
     rw[zAN]
     rw[HE.out]
     exact zAm Tryz.results246 rfl rfl rfl his (Below.refl _ _).drew rfl rfl hb0 (Nat.le_refl _)
    |true=>
     by_cases g2:L.length≤a.next+1
     ·
      have t2:decide ((L.length:Int)≤(a.next:Int)+1)=true:=by simp;omega
      have HE:Hid (zAp L at0 n true=(a,none)):=hIT.out.trans (by simp[e1,e3,g2])
      go_wp2_with fail
      refine zAA (X:=none) 23 [([0,1,2],3),([4,5,6,7,8,9,10,11,12,13,14,15,16,17,18,19,20],21)] [22] (by kernel_rfl) (by kernel_rfl) rfl (fun _ _ _ _ _ h=>h) ?_
      simp only[zAM,zAC,zAE,zAD,zAB,List.getD_cons_zero,List.getD_cons_succ,List.drop_succ_cons,List.drop_nil]
      repeat (go_big_quiet_step (fail))
      refine wpQuiet_nil ?_
      go_wp2_with fail
      refine(zAL (h1.below (Below.refl _ _).drew) (a.next) 45 (rfl) rfl).mono ?_;rintro e ww ⟨rfl,rfl⟩
      go_wp2_with fail
      refine⟨zAI.refl _,?_⟩
      repeat (go_big_quiet_step (fail))
      refine wpQuiet_nil ?_
      go_wp2_with fail
      refine⟨zAI.refl _,?_⟩
      repeat (go_big_quiet_step (fail))
      refine wpQuiet_nil ?_
      go_wp2_with fail
      rw[zAN]
      rw[HE.out]
      exact zAm Tryz.results246 rfl rfl rfl his (Below.refl _ _).drew rfl rfl hb0 (Nat.le_refl _)
     ·have t2:decide ((L.length:Int)≤(a.next:Int)+1)=false:=by simp;omega
      cases e4:signAt L (a.next+1) 93 with
      |true=>
       have HE:Hid (zAp L at0 n true=(a,none)):=hIT.out.trans (by simp[e1,e3,g2,e4])
       go_wp2_with fail
       refine zAA (X:=none) 23 [([0,1,2],3),([4,5,6,7,8,9,10,11,12,13,14,15,16,17,18,19,20],21)] [22] (by kernel_rfl) (by kernel_rfl) rfl (fun _ _ _ _ _ h=>h) ?_
       simp only[zAM,zAC,zAE,zAD,zAB,List.getD_cons_zero,List.getD_cons_succ,List.drop_succ_cons,List.drop_nil]
       repeat (go_big_quiet_step (fail))
       refine wpQuiet_nil ?_
       go_wp2_with fail
       refine(zAL (h1.below (Below.refl _ _).drew) (a.next) 45 (rfl) rfl).mono ?_;rintro e ww ⟨rfl,rfl⟩
       go_wp2_with fail
       refine⟨zAI.refl _,?_⟩
       repeat (go_big_quiet_step (fail))
       refine wpQuiet_nil ?_
       go_wp2_with fail
       refine(zAL (h1.below (Below.refl _ _).drew) (a.next+1) 93 (rfl) rfl).mono ?_;rintro e ww ⟨rfl,rfl⟩
       go_wp2_with fail
       refine⟨zAI.refl _,?_⟩
       repeat (go_big_quiet_step (fail))
       refine wpQuiet_nil ?_
       go_wp2_with fail
       rw[zAN]
       rw[HE.out]
       exact zAm Tryz.results246 rfl rfl rfl his (Below.refl _ _).drew rfl rfl hb0 (Nat.le_refl _)
      |false=>
       cases e5:a.fin with
       |false=>
        rw[e5]at x5
        have HE:Hid (zAp L at0 n true=(a,some (30,n))):=hIT.out.trans (by simp[e1,e3,g2,e4,e5])
        go_wp2_with fail
        refine zAA (X:=none) 23 [([0,1,2],3),([4,5,6,7,8,9,10,11,12,13,14,15,16,17,18,19,20],21)] [22] (by kernel_rfl) (by kernel_rfl) rfl (fun _ _ _ _ _ h=>h) ?_
        simp only[zAM,zAC,zAE,zAD,zAB,List.getD_cons_zero,List.getD_cons_succ,List.drop_succ_cons,List.drop_nil]
        repeat (go_big_quiet_step (fail))
        refine wpQuiet_nil ?_
        go_wp2_with fail
        refine(zAL (h1.below (Below.refl _ _).drew) (a.next) 45 (rfl) rfl).mono ?_;rintro e ww ⟨rfl,rfl⟩
        go_wp2_with fail
        refine⟨zAI.refl _,?_⟩
        repeat (go_big_quiet_step (fail))
        refine wpQuiet_nil ?_
        go_wp2_with fail
        refine(zAL (h1.below (Below.refl _ _).drew) (a.next+1) 93 (rfl) rfl).mono ?_;rintro e ww ⟨rfl,rfl⟩
        go_wp2_with fail
        refine⟨zAI.refl _,?_⟩
        repeat (go_big_quiet_step (fail))
        refine wpQuiet_nil ?_
        go_wp2_with fail
        rw[zAN]
        rw[HE.out]
        exact zAm Tryz.results246 rfl rfl rfl his ((Below.refl _ _).alloc (by simp[zAO];omega) _).drew (by simp only[thV,e5]) (zC1 (e:=30) (by simp[zAO]) (by simp[zAO];omega)).drew hb0 (Nat.le_refl _)
       |true=>
        rw[e5]at x5
        go_wp2_with fail
        refine zAA (X:=none) 23 [([0,1,2],3),([4,5,6,7,8,9,10,11,12,13,14,15,16,17,18,19,20],21)] [22] (by kernel_rfl) (by kernel_rfl) rfl (fun _ _ _ _ _ h=>h) ?_
        simp only[zAM,zAC,zAE,zAD,zAB,List.getD_cons_zero,List.getD_cons_succ,List.drop_succ_cons,List.drop_nil]
        repeat (go_big_quiet_step (fail))
        refine wpQuiet_nil ?_
        go_wp2_with fail
        refine(zAL (h1.below (Below.refl _ _).drew) (a.next) 45 (rfl) rfl).mono ?_;rintro e ww ⟨rfl,rfl⟩
        go_wp2_with fail
        refine⟨zAI.refl _,?_⟩
        repeat (go_big_quiet_step (fail))
        refine wpQuiet_nil ?_
        go_wp2_with fail
        refine(zAL (h1.below (Below.refl _ _).drew) (a.next+1) 93 (rfl) rfl).mono ?_;rintro e ww ⟨rfl,rfl⟩
        go_wp2_with fail
        refine⟨zAI.refl _,?_⟩
        repeat (go_big_quiet_step (fail))
        refine wpQuiet_nil ?_
        go_wp2_with fail
        refine(zEb (h1.below (Below.refl _ _).drew) (a.next+1) (by omega) (by omega)).mono ?_;rintro e w2 ⟨v,rfl,hf,hb1⟩
        generalize hth2:zAl L at0 (a.next+1)=r2 at*
        obtain⟨c,fc⟩:=r2
        have HT2:=Lib.hid hth2
        clear hth2
        simp only at hf
        have hbd:Below wx.heap.size wx w2:=Below.trans (Below.refl _ _).drew hb1
        go_upto_region 13 with fail
        have hy:zFc (w2.alloc (.cells #[.int .u64 c.set.w0.toNat,.int .u64 c.set.w1.toNat,.int .u64 c.set.w2.toNat,.int .u64 c.set.w3.toNat,.int .u8 (c.b:Nat),.bool c.fin,.int .i64 (c.next:Nat)] 291)) w2.heap.size c:=heap_alloc_new w2 _
        have hby:Below w2.heap.size w2 (w2.alloc (.cells #[.int .u64 c.set.w0.toNat,.int .u64 c.set.w1.toNat,.int .u64 c.set.w2.toNat,.int .u64 c.set.w3.toNat,.int .u8 (c.b:Nat),.bool c.fin,.int .i64 (c.next:Nat)] 291)):=(Below.refl _ _).alloc (Nat.le_refl _) _
        have hsy:w2.heap.size<(w2.alloc (.cells #[.int .u64 c.set.w0.toNat,.int .u64 c.set.w1.toNat,.int .u64 c.set.w2.toNat,.int .u64 c.set.w3.toNat,.int .u8 (c.b:Nat),.bool c.fin,.int .i64 (c.next:Nat)] 291)).heap.size:=by simp
        revert hy hby hsy
        generalize w2.alloc (.cells #[.int .u64 c.set.w0.toNat,.int .u64 c.set.w1.toNat,.int .u64 c.set.w2.toNat,.int .u64 c.set.w3.toNat,.int .u8 (c.b:Nat),.bool c.fin,.int .i64 (c.next:Nat)] 291)=wy
        intro hy hby hsy
        have hbw2:Below wx.heap.size wx wy:=hbd.trans (hby.mono hbd.size)
        have hbe2:=hb0.trans (hbw2.mono hle)
        have hz2:=HZ.out.below hbw2
        have his2:=hz2.is
        clear z0 z1 z2 z3 z4 z5 z6 f0
        obtain⟨z0,z1,z2,z3,z4,z5,z6⟩:=hz2.cells
        have f0:=zAF hz2
        clear x0 x1 x2 x3 x4 x5 x6
        obtain⟨x0,x1,x2,x3,x4,x5,x6⟩:=(HX.out.below hbw2).cells
        obtain⟨y0,y1,y2,y3,y4,y5,y6⟩:=hy.cells
        have hfy:Flt wx.heap.size wy v fc:=(by exact hf:Flt wx.heap.size w2 v fc).below hby
        have hly:=hbw2.size
        have hlz:w.heap.size<wy.heap.size:=by omega
        have hlb:b8<wy.heap.size:=by omega
        have hlr:rb<wy.heap.size:=by omega
        clear hbd hby hz2 hf hb1 hy
        generalize w2.heap.size=b9 at*
        cases fc with
        |some f=>
         have HE:Hid (zAp L at0 n true=(c,some f)):=hIT.out.trans (by simp[e1,e3,g2,e4,e5])
         obtain⟨fe,fat⟩:=f
         obtain⟨fb,rfl,hfge,hflt,hfc0,hfc1⟩:=hfy
         have hfl:Hid (Flt wx.heap.size wy (.pointer (some ⟨fb,0,none⟩)) (some (fe,fat))):=⟨fb,rfl,hfge,hflt,hfc0,hfc1⟩
         clear hfc0 hfc1
         go_wp2_with fail
         rw[zAN]
         rw[HE.out]
         exact zAm Tryz.results246 rfl rfl rfl his2 (Below.refl _ _) rfl ((hfl.out.set hlx _ _ _ _ _ _ _).mono hle) hbe2 (Nat.le_refl _)
        |none=>
         have hv:v= .pointer none:=hfy
         subst hv
         clear hfy
         obtain⟨hc1,hc2,hcb⟩:=zB4 HT2.out h1.m.u
         cases e6:c.fin with
         |false=>
          rw[e6]at y5
          have HE:Hid (zAp L at0 n true=(c,some (30,n))):=hIT.out.trans (by simp[e1,e3,g2,e4,e5,e6])
          go_wp2_with fail
          rw[zAN]
          rw[HE.out]
          exact zAm Tryz.results246 rfl rfl rfl his2 ((Below.refl _ _).alloc (by simp[zAO];omega) _) (by simp only[thV,e6]) (zC1 (e:=30) (by simp[zAO]) (by simp[zAO];omega)) hbe2 (Nat.le_refl _)
         |true=>
          by_cases g3:c.b<a.b
          ·
           rw[e6]at y5
           have HE:Hid (zAp L at0 n true=(c,some (30,n))):=hIT.out.trans (by simp[e1,e3,g2,e4,e5,e6,g3])
           go_wp2_with fail
           rw[zAN]
           rw[HE.out]
           exact zAm Tryz.results246 rfl rfl rfl his2 ((Below.refl _ _).alloc (by simp[zAO];omega) _) (by simp only[thV,e6]) (zC1 (e:=30) (by simp[zAO]) (by simp[zAO];omega)) hbe2 (Nat.le_refl _)
          ·
           rw[e6]at y5
           have HE:Hid (zAp L at0 n true=(⟨Cls.range a.b c.b,0,false,c.next⟩,none)):=hIT.out.trans (by simp[e1,e3,g2,e4,e5,e6,g3])
           go_wp2_with fail
           refine zAA (X:=none) 8 [([0,1,2,3,5,6],4)] [7] (by kernel_rfl) (by kernel_rfl) rfl (fun _ _ _ _ _ h=>h) ?_
           simp only[zAM,zAC,zAE,zAD,zAB,List.getD_cons_zero,List.getD_cons_succ,List.drop_succ_cons,List.drop_zero]
           repeat (go_big_quiet_step (fail))
           refine wpQuiet_nil ?_
           go_wp2_with fail
           refine(zBB _ _ (by omega) (by omega) (by omega) (by omega) _).mono ?_;rintro e w3 ⟨rfl,hb3⟩
           have hkp:=zAI.of_below (X:=none) hb3
           replace hb3:Below wy.heap.size wy w3:=Below.trans (Below.refl _ _).drew hb3
           have hbe3:=hbe2.trans (hb3.mono (by omega))
           have hz3:=HZ.out.below (hbw2.trans (hb3.mono hly))
           have his3:=hz3.is
           clear z0 z1 z2 z3 z4 z5 z6 f0
           obtain⟨z0,z1,z2,z3,z4,z5,z6⟩:=hz3.cells
           have f0:=zAF hz3
           clear hz3
           go_wp2_with fail
           refine⟨hkp,?_⟩
           clear hkp
           repeat (go_big_quiet_step (fail))
           refine wpQuiet_nil ?_
           go_wp2_with fail
           rw[zAN]
           rw[HE.out]
           exact zAm Tryz.results246 rfl rfl rfl his3 (Below.refl _ _) rfl rfl hbe3 (Nat.le_refl _)
   |false=>
    cases e2:signAt L (n+1) 93 with
    |true=>
     go_wp2_with fail
     refine(zAL h1 (n) 45 (rfl) rfl).mono ?_;rintro e ww ⟨rfl,rfl⟩
     go_wp2_with fail
     refine(zAL h1 (n+1) 93 (by omega) rfl).mono ?_;rintro e ww ⟨rfl,rfl⟩
     cases e3:signAt L a.next 45 with
     |false=>
      have HE:Hid (zAp L at0 n false=(a,none)):=hIT.out.trans (by simp[e1,e2,e3])
      go_wp2_with fail
      refine zAA (X:=none) 23 [([0,1,2],3),([4,5,6,7,8,9,10,11,12,13,14,15,16,17,18,19,20],21)] [22] (by kernel_rfl) (by kernel_rfl) rfl (fun _ _ _ _ _ h=>h) ?_
      simp only[zAM,zAC,zAE,zAD,zAB,List.getD_cons_zero,List.getD_cons_succ,List.drop_succ_cons,List.drop_nil]
      repeat (go_big_quiet_step (fail))
      refine wpQuiet_nil ?_
      go_wp2_with fail
      refine(zAL (h1.below (Below.refl _ _).drew) (a.next) 45 (rfl) rfl).mono ?_;rintro e ww ⟨rfl,rfl⟩
      go_wp2_with fail
      refine⟨zAI.refl _,?_⟩
      repeat (go_big_quiet_step (fail))
      refine wpQuiet_nil ?_
      go_wp2_with fail
      refine⟨zAI.refl _,?_⟩
      repeat (go_big_quiet_step (fail))
      refine wpQuiet_nil ?_
      go_wp2_with fail
      rw[zAN]
      rw[HE.out]
      exact zAm Tryz.results246 rfl rfl rfl his (Below.refl _ _).drew rfl rfl hb0 (Nat.le_refl _)
     |true=>
      by_cases g2:L.length≤a.next+1
      ·
       have t2:decide ((L.length:Int)≤(a.next:Int)+1)=true:=by simp;omega
       have HE:Hid (zAp L at0 n false=(a,none)):=hIT.out.trans (by simp[e1,e2,e3,g2])
       go_wp2_with fail
       refine zAA (X:=none) 23 [([0,1,2],3),([4,5,6,7,8,9,10,11,12,13,14,15,16,17,18,19,20],21)] [22] (by kernel_rfl) (by kernel_rfl) rfl (fun _ _ _ _ _ h=>h) ?_
       simp only[zAM,zAC,zAE,zAD,zAB,List.getD_cons_zero,List.getD_cons_succ,List.drop_succ_cons,List.drop_nil]
       repeat (go_big_quiet_step (fail))
       refine wpQuiet_nil ?_
       go_wp2_with fail
       refine(zAL (h1.below (Below.refl _ _).drew) (a.next) 45 (rfl) rfl).mono ?_;rintro e ww ⟨rfl,rfl⟩
       go_wp2_with fail
       refine⟨zAI.refl _,?_⟩
       repeat (go_big_quiet_step (fail))
       refine wpQuiet_nil ?_
       go_wp2_with fail
       refine⟨zAI.refl _,?_⟩
       repeat (go_big_quiet_step (fail))
       refine wpQuiet_nil ?_
       go_wp2_with fail
       rw[zAN]
       rw[HE.out]
       exact zAm Tryz.results246 rfl rfl rfl his (Below.refl _ _).drew rfl rfl hb0 (Nat.le_refl _)
      ·have t2:decide ((L.length:Int)≤(a.next:Int)+1)=false:=by simp;omega
       cases e4:signAt L (a.next+1) 93 with
       |true=>
        have HE:Hid (zAp L at0 n false=(a,none)):=hIT.out.trans (by simp[e1,e2,e3,g2,e4])
        go_wp2_with fail
        refine zAA (X:=none) 23 [([0,1,2],3),([4,5,6,7,8,9,10,11,12,13,14,15,16,17,18,19,20],21)] [22] (by kernel_rfl) (by kernel_rfl) rfl (fun _ _ _ _ _ h=>h) ?_
        simp only[zAM,zAC,zAE,zAD,zAB,List.getD_cons_zero,List.getD_cons_succ,List.drop_succ_cons,List.drop_nil]
        repeat (go_big_quiet_step (fail))
        refine wpQuiet_nil ?_
        go_wp2_with fail
        refine(zAL (h1.below (Below.refl _ _).drew) (a.next) 45 (rfl) rfl).mono ?_;rintro e ww ⟨rfl,rfl⟩
        go_wp2_with fail
        refine⟨zAI.refl _,?_⟩
        repeat (go_big_quiet_step (fail))
        refine wpQuiet_nil ?_
        go_wp2_with fail
        refine(zAL (h1.below (Below.refl _ _).drew) (a.next+1) 93 (rfl) rfl).mono ?_;rintro e ww ⟨rfl,rfl⟩
        go_wp2_with fail
        refine⟨zAI.refl _,?_⟩
        repeat (go_big_quiet_step (fail))
        refine wpQuiet_nil ?_
        go_wp2_with fail
        rw[zAN]
        rw[HE.out]
        exact zAm Tryz.results246 rfl rfl rfl his (Below.refl _ _).drew rfl rfl hb0 (Nat.le_refl _)
       |false=>
        cases e5:a.fin with
        |false=>
         rw[e5]at x5
         have HE:Hid (zAp L at0 n false=(a,some (30,n))):=hIT.out.trans (by simp[e1,e2,e3,g2,e4,e5])
         go_wp2_with fail
         refine zAA (X:=none) 23 [([0,1,2],3),([4,5,6,7,8,9,10,11,12,13,14,15,16,17,18,19,20],21)] [22] (by kernel_rfl) (by kernel_rfl) rfl (fun _ _ _ _ _ h=>h) ?_
         simp only[zAM,zAC,zAE,zAD,zAB,List.getD_cons_zero,List.getD_cons_succ,List.drop_succ_cons,List.drop_nil]
         repeat (go_big_quiet_step (fail))
         refine wpQuiet_nil ?_
         go_wp2_with fail
         refine(zAL (h1.below (Below.refl _ _).drew) (a.next) 45 (rfl) rfl).mono ?_;rintro e ww ⟨rfl,rfl⟩
         go_wp2_with fail
         refine⟨zAI.refl _,?_⟩
         repeat (go_big_quiet_step (fail))
         refine wpQuiet_nil ?_
         go_wp2_with fail
         refine(zAL (h1.below (Below.refl _ _).drew) (a.next+1) 93 (rfl) rfl).mono ?_;rintro e ww ⟨rfl,rfl⟩
         go_wp2_with fail
         refine⟨zAI.refl _,?_⟩
         repeat (go_big_quiet_step (fail))
         refine wpQuiet_nil ?_
         go_wp2_with fail
         rw[zAN]
         rw[HE.out]
         exact zAm Tryz.results246 rfl rfl rfl his ((Below.refl _ _).alloc (by simp[zAO];omega) _).drew (by simp only[thV,e5]) (zC1 (e:=30) (by simp[zAO]) (by simp[zAO];omega)).drew hb0 (Nat.le_refl _)
        |true=>
         rw[e5]at x5
         go_wp2_with fail
         refine zAA (X:=none) 23 [([0,1,2],3),([4,5,6,7,8,9,10,11,12,13,14,15,16,17,18,19,20],21)] [22] (by kernel_rfl) (by kernel_rfl) rfl (fun _ _ _ _ _ h=>h) ?_
         simp only[zAM,zAC,zAE,zAD,zAB,List.getD_cons_zero,List.getD_cons_succ,List.drop_succ_cons,List.drop_nil]
         repeat (go_big_quiet_step (fail))
         refine wpQuiet_nil ?_
         go_wp2_with fail
         refine(zAL (h1.below (Below.refl _ _).drew) (a.next) 45 (rfl) rfl).mono ?_;rintro e ww ⟨rfl,rfl⟩
         go_wp2_with fail
         refine⟨zAI.refl _,?_⟩
         repeat (go_big_quiet_step (fail))
         refine wpQuiet_nil ?_
         go_wp2_with fail
         refine(zAL (h1.below (Below.refl _ _).drew) (a.next+1) 93 (rfl) rfl).mono ?_;rintro e ww ⟨rfl,rfl⟩
         go_wp2_with fail
         refine⟨zAI.refl _,?_⟩
         repeat (go_big_quiet_step (fail))
         refine wpQuiet_nil ?_
         go_wp2_with fail
         refine(zEb (h1.below (Below.refl _ _).drew) (a.next+1) (by omega) (by omega)).mono ?_;rintro e w2 ⟨v,rfl,hf,hb1⟩
         generalize hth2:zAl L at0 (a.next+1)=r2 at*
         obtain⟨c,fc⟩:=r2
         have HT2:=Lib.hid hth2
         clear hth2
         simp only at hf
         have hbd:Below wx.heap.size wx w2:=Below.trans (Below.refl _ _).drew hb1
         go_upto_region 13 with fail
         have hy:zFc (w2.alloc (.cells #[.int .u64 c.set.w0.toNat,.int .u64 c.set.w1.toNat,.int .u64 c.set.w2.toNat,.int .u64 c.set.w3.toNat,.int .u8 (c.b:Nat),.bool c.fin,.int .i64 (c.next:Nat)] 291)) w2.heap.size c:=heap_alloc_new w2 _
         have hby:Below w2.heap.size w2 (w2.alloc (.cells #[.int .u64 c.set.w0.toNat,.int .u64 c.set.w1.toNat,.int .u64 c.set.w2.toNat,.int .u64 c.set.w3.toNat,.int .u8 (c.b:Nat),.bool c.fin,.int .i64 (c.next:Nat)] 291)):=(Below.refl _ _).alloc (Nat.le_refl _) _
         have hsy:w2.heap.size<(w2.alloc (.cells #[.int .u64 c.set.w0.toNat,.int .u64 c.set.w1.toNat,.int .u64 c.set.w2.toNat,.int .u64 c.set.w3.toNat,.int .u8 (c.b:Nat),.bool c.fin,.int .i64 (c.next:Nat)] 291)).heap.size:=by simp
         revert hy hby hsy
         generalize w2.alloc (.cells #[.int .u64 c.set.w0.toNat,.int .u64 c.set.w1.toNat,.int .u64 c.set.w2.toNat,.int .u64 c.set.w3.toNat,.int .u8 (c.b:Nat),.bool c.fin,.int .i64 (c.next:Nat)] 291)=wy
         intro hy hby hsy
         have hbw2:Below wx.heap.size wx wy:=hbd.trans (hby.mono hbd.size)
         have hbe2:=hb0.trans (hbw2.mono hle)
         have hz2:=HZ.out.below hbw2
         have his2:=hz2.is
         clear z0 z1 z2 z3 z4 z5 z6 f0
         obtain⟨z0,z1,z2,z3,z4,z5,z6⟩:=hz2.cells
         have f0:=zAF hz2
         clear x0 x1 x2 x3 x4 x5 x6
         obtain⟨x0,x1,x2,x3,x4,x5,x6⟩:=(HX.out.below hbw2).cells
         obtain⟨y0,y1,y2,y3,y4,y5,y6⟩:=hy.cells
         have hfy:Flt wx.heap.size wy v fc:=(by exact hf:Flt wx.heap.size w2 v fc).below hby
         have hly:=hbw2.size
         have hlz:w.heap.size<wy.heap.size:=by omega
         have hlb:b8<wy.heap.size:=by omega
         have hlr:rb<wy.heap.size:=by omega
         clear hbd hby hz2 hf hb1 hy
         generalize w2.heap.size=b9 at*
         cases fc with
         |some f=>
          have HE:Hid (zAp L at0 n false=(c,some f)):=hIT.out.trans (by simp[e1,e2,e3,g2,e4,e5])
          obtain⟨fe,fat⟩:=f
          obtain⟨fb,rfl,hfge,hflt,hfc0,hfc1⟩:=hfy
          have hfl:Hid (Flt wx.heap.size wy (.pointer (some ⟨fb,0,none⟩)) (some (fe,fat))):=⟨fb,rfl,hfge,hflt,hfc0,hfc1⟩
          clear hfc0 hfc1
          go_wp2_with fail
          rw[zAN]
          rw[HE.out]
          exact zAm Tryz.results246 rfl rfl rfl his2 (Below.refl _ _) rfl ((hfl.out.set hlx _ _ _ _ _ _ _).mono hle) hbe2 (Nat.le_refl _)
         |none=>
          have hv:v= .pointer none:=hfy
          subst hv
          clear hfy
          obtain⟨hc1,hc2,hcb⟩:=zB4 HT2.out h1.m.u
          cases e6:c.fin with
          |false=>
           rw[e6]at y5
           have HE:Hid (zAp L at0 n false=(c,some (30,n))):=hIT.out.trans (by simp[e1,e2,e3,g2,e4,e5,e6])
           go_wp2_with fail
           rw[zAN]
           rw[HE.out]
           exact zAm Tryz.results246 rfl rfl rfl his2 ((Below.refl _ _).alloc (by simp[zAO];omega) _) (by simp only[thV,e6]) (zC1 (e:=30) (by simp[zAO]) (by simp[zAO];omega)) hbe2 (Nat.le_refl _)
          |true=>
           by_cases g3:c.b<a.b
           ·
            rw[e6]at y5
            have HE:Hid (zAp L at0 n false=(c,some (30,n))):=hIT.out.trans (by simp[e1,e2,e3,g2,e4,e5,e6,g3])
            go_wp2_with fail
            rw[zAN]
            rw[HE.out]
            exact zAm Tryz.results246 rfl rfl rfl his2 ((Below.refl _ _).alloc (by simp[zAO];omega) _) (by simp only[thV,e6]) (zC1 (e:=30) (by simp[zAO]) (by simp[zAO];omega)) hbe2 (Nat.le_refl _)
           ·
            rw[e6]at y5
            have HE:Hid (zAp L at0 n false=(⟨Cls.range a.b c.b,0,false,c.next⟩,none)):=hIT.out.trans (by simp[e1,e2,e3,g2,e4,e5,e6,g3])
            go_wp2_with fail
            refine zAA (X:=none) 8 [([0,1,2,3,5,6],4)] [7] (by kernel_rfl) (by kernel_rfl) rfl (fun _ _ _ _ _ h=>h) ?_
            simp only[zAM,zAC,zAE,zAD,zAB,List.getD_cons_zero,List.getD_cons_succ,List.drop_succ_cons,List.drop_zero]
            repeat (go_big_quiet_step (fail))
            refine wpQuiet_nil ?_
            go_wp2_with fail
            refine(zBB _ _ (by omega) (by omega) (by omega) (by omega) _).mono ?_;rintro e w3 ⟨rfl,hb3⟩
            have hkp:=zAI.of_below (X:=none) hb3
            replace hb3:Below wy.heap.size wy w3:=Below.trans (Below.refl _ _).drew hb3
            have hbe3:=hbe2.trans (hb3.mono (by omega))
            have hz3:=HZ.out.below (hbw2.trans (hb3.mono hly))
            have his3:=hz3.is
            clear z0 z1 z2 z3 z4 z5 z6 f0
            obtain⟨z0,z1,z2,z3,z4,z5,z6⟩:=hz3.cells
            have f0:=zAF hz3
            clear hz3
            go_wp2_with fail
            refine⟨hkp,?_⟩
            clear hkp
            repeat (go_big_quiet_step (fail))
            refine wpQuiet_nil ?_
            go_wp2_with fail
            rw[zAN]
            rw[HE.out]
            exact zAm Tryz.results246 rfl rfl rfl his3 (Below.refl _ _) rfl rfl hbe3 (Nat.le_refl _)
    |false=>
     by_cases g1:L.length≤n+1
     ·
      have HE:Hid (zAp L at0 n false=(a,some (32,at0))):=hIT.out.trans (by simp[e1,e2,g1])
      go_wp2_with fail
      refine(zAL h1 (n) 45 (rfl) rfl).mono ?_;rintro e ww ⟨rfl,rfl⟩
      go_wp2_with fail
      refine(zAL h1 (n+1) 93 (by omega) rfl).mono ?_;rintro e ww ⟨rfl,rfl⟩
      go_wp2_with fail
      refine zAA (X:=none) 3 [([0,1],2)] [] (by kernel_rfl) (by kernel_rfl) rfl (fun _ _ _ _ _ h=>h) ?_
      simp only[zAM,zAC,zAE,zAD,zAB,List.getD_cons_zero,List.getD_cons_succ,List.drop_succ_cons,List.drop_zero]
      repeat (go_big_quiet_step (fail))
      refine wpQuiet_nil ?_
      go_wp2_with fail
      refine(zEn (h1.below (Below.refl _ _).drew)).mono ?_;rintro e w2 ⟨v,rfl,hf,hb1⟩
      have hkp:=zAI.of_below (X:=none) hb1
      replace hb1:Below wx.heap.size wx w2:=Below.trans (Below.refl _ _).drew hb1
      have hz1:=HZ.out.below hb1
      have his1:=hz1.is
      have hbe1:=hb0.trans (hb1.mono hle)
      have HF:=Lib.hid (by exact hf:Flt wx.heap.size w2 v (some (32,at0)))
      obtain⟨z0,z1,z2,z3,z4,z5,z6⟩:=hz1.cells
      have f0:=zAF hz1
      clear hf hb1 hz1
      go_wp2_with fail
      refine⟨hkp,wpQuiet_nil ?_⟩
      clear hkp
      go_wp2_with fail
      rw[zAN]
      rw[HE.out]
      exact zAm Tryz.results246 rfl rfl rfl his1 (Below.refl _ _) rfl ((HF.out.set hlx _ _ _ _ _ _ _).mono hle) hbe1 (Nat.le_refl _)
     ·
      have HE:Hid (zAp L at0 n false=(a,some (30,n))):=hIT.out.trans (by simp[e1,e2,g1])
      go_wp2_with fail
      refine(zAL h1 (n) 45 (rfl) rfl).mono ?_;rintro e ww ⟨rfl,rfl⟩
      go_wp2_with fail
      refine(zAL h1 (n+1) 93 (by omega) rfl).mono ?_;rintro e ww ⟨rfl,rfl⟩
      go_wp2_with fail
      rw[zAN]
      rw[HE.out]
      exact zAm Tryz.results246 rfl rfl rfl his ((Below.refl _ _).alloc (by simp[zAO];omega) _) rfl (zC1 (e:=30) (by simp[zAO]) (by simp[zAO];omega)) hb0 (Nat.le_refl _)
end
section
open Go.RowKit
def zP5 (w:World) (B:Nat):Prop:= ∃a0 a1 a2 a3:Value,w.heap[B]?=some (.cells #[a0,a1,a2,a3] 99 (0,0))
theorem zBz.is {w:World} {B:Nat} {c:Cls} (h:zBz w B c):zP5 w B:=⟨_,_,_,_,h⟩
theorem zP5.lt {w:World} {B:Nat} (h:zP5 w B):B<w.heap.size:=by
 obtain⟨_,_,_,_,h⟩:=h
 exact(Array.getElem?_eq_some_iff.1 h).1
def zGe (w:World) (B:Nat) (s0 s1 s2 s3:Int):World:=
 (((w.setCell ⟨B,0,none⟩ (.int .u64 s0)).setCell ⟨B,1,none⟩ (.int .u64 s1)).setCell ⟨B,2,none⟩ (.int .u64 s2)).setCell ⟨B,3,none⟩ (.int .u64 s3)
theorem zBu (w:World) (B:Nat) (s0 s1 s2 s3:Int):
  (((w.setCell ⟨B,0,none⟩ (.int .u64 s0)).setCell ⟨B,1,none⟩ (.int .u64 s1)).setCell ⟨B,2,none⟩ (.int .u64 s2)).setCell ⟨B,3,none⟩ (.int .u64 s3)=zGe w B s0 s1 s2 s3:=rfl
theorem zNr {w:World} {B:Nat} (h:zP5 w B) (s0 s1 s2 s3:Int):
  (zGe w B s0 s1 s2 s3).heap[B]?=some (.cells #[.int .u64 s0,.int .u64 s1,.int .u64 s2,.int .u64 s3] 99 (0,0)):=by
 obtain⟨a0,a1,a2,a3,h⟩:=h
 simp[zGe,World.setCell,Array.getElem?_modify,h]
theorem zCr {w:World} {B k:Nat} (h:k≤B) (s0 s1 s2 s3:Int):Below k w (zGe w B s0 s1 s2 s3):=
 ((((Below.refl k w).setCell (p:=⟨B,0,none⟩) h _).setCell (p:=⟨B,1,none⟩) h _).setCell (p:=⟨B,2,none⟩) h _).setCell (p:=⟨B,3,none⟩) h _
theorem zJL {w:World} {B k:Nat} (h:k≠B) (s0 s1 s2 s3:Int):(zGe w B s0 s1 s2 s3).heap[k]?=w.heap[k]?:=by
 unfold zGe
 rw[Below.heap_setCell _ _ _ _ h,Below.heap_setCell _ _ _ _ h,Below.heap_setCell _ _ _ _ h,Below.heap_setCell _ _ _ _ h]
theorem zK3 {w:World} {B:Nat} (s0 s1 s2 s3:Int):(zGe w B s0 s1 s2 s3).heap.size=w.heap.size:=by simp[zGe]
theorem zMk {w1:World} {B:Nat} {s0 s1 s2 s3:Int} (h1:w1.heap[B]?=some (.cells #[.int .u64 s0,.int .u64 s1,.int .u64 s2,.int .u64 s3] 99 (0,0))):
  (loadVar 99 ⟨B,0,none⟩).run Tryz.prog w1= .ok (.agg #[.int .u64 s0,.int .u64 s1,.int .u64 s2,.int .u64 s3]) w1:=by
 have hc: ∀j,w1.cell? ⟨B,j,none⟩=(#[.int .u64 s0,.int .u64 s1,.int .u64 s2,.int .u64 s3]:Array Value)[j]?:=fun j=>cell_of_row w1 B j _ _ (0,0) h1
 have c0:=hc 0
 have c1:=hc 1
 have c2:=hc 2
 have c3:=hc 3
 simp only[List.getElem?_toArray,List.getElem?_cons_zero,List.getElem?_cons_succ]at c0 c1 c2 c3
 simp[go_sem,c0,c1,c2,c3]
theorem zE4 {fn:Func} {p u v:Tmp} {ty:TypeId} (h:fn.results= #[.cell p ty,.tmp u,.tmp v]) (tmps:Array Value) (P:Program) (w:World):
  (results fn tmps).run P w=
   ((asAddr (tmps.getD p undef)).run P w).andThen fun a w₁=>((loadVar ty a).run P w₁).andThen fun x w₂=> .ok (.tuple #[x,tmps.getD u undef,tmps.getD v undef]) w₂:=by
 simp only[results,h]
 simp[Sem.run_bind,Result.andThen]
def brV:Except (Nat × Nat) (Cls × Nat)→Value
 | .error (f,p)=> .tuple #[zDY Cls.zero,.int .i64 (p:Nat),.int .i64 (f:Nat)]
 | .ok (c,i)=> .tuple #[zDY c,.int .i64 (i:Nat),.int .i64 0]
theorem zGp {fn:Func} {p u v:Tmp} (h:fn.results= #[.cell p 99,.tmp u,.tmp v]) {a:Act} {w W w0:World} {B:Nat} {s0 s1 s2 s3:Int} {x y:Value} {r:Except (Nat × Nat) (Cls × Nat)}
  (ha:a.tmps.getD p undef= .pointer (some ⟨B,0,none⟩)) (hu:a.tmps.getD u undef=x) (hv:a.tmps.getD v undef=y) (hd:a.defers=[]) (his:zP5 w B) (hW:Below (B+1) (zGe w B s0 s1 s2 s3) W)
  (hr:brV r= .tuple #[.agg #[.int .u64 s0,.int .u64 s1,.int .u64 s2,.int .u64 s3],x,y]) (hb:Below w0.heap.size w0 w) (hB:w0.heap.size≤B):
  bodyPost Tryz.prog fn (fun e w'=>e= .returned (brV r)∧Below w0.heap.size w0 w') .ret a W:=by
 refine bodyPost_ret (v:=brV r) ?_ hd ⟨rfl,(hb.trans (zCr hB _ _ _ _)).trans (hW.mono (by omega))⟩
 rw[zE4 h,ha,hu,hv,hr]
 simp[asAddr,zMk ((hW.block B (Nat.lt_succ_self _)).trans (zNr his s0 s1 s2 s3)),Result.andThen]
theorem zMT {mb mo cap:Nat} {L:List Mk} {w:World} (hm:zI7 w mb mo L) {a:Int} (at0:Nat) (ha:a=at0) (hs:signAt L at0 91=true):
  Calls Tryz.prog 230 #[.slice (some ⟨mb,mo,none⟩) L.length cap,.int .i64 a] w fun e w'=>e= .returned (brV (zA7 L at0))∧Below w.heap.size w w':=by
 subst ha
 have hL:=hm.len
 have hmb:=hm.lt
 have hat:=zEd hs
 have h1:Br ((w.alloc (.cells #[.int .u64 0,.int .u64 0,.int .u64 0,.int .u64 0] 99)).alloc (.cells #[.slice (some ⟨mb,mo,none⟩) L.length cap,.int .i64 (at0:Nat)] 289)) (w.heap.size+1) mb mo cap L at0:=⟨by simp,by rw[cell_of_row _ _ 0 _ _ (0,0) (zFJ (by simp))];rfl,by rw[cell_of_row _ _ 1 _ _ (0,0) (zFJ (by simp))];rfl,hm.below (by repeat (first|exact Below.refl _ _|assumption|refine Below.drew ?_|refine Below.alloc ?_ (by first|(simp;done)|(simp;omega)|omega) _|refine Below.setCell ?_ (by first|(simp;done)|(simp;omega)|omega) _)),by omega⟩
 have hz:zBz ((w.alloc (.cells #[.int .u64 0,.int .u64 0,.int .u64 0,.int .u64 0] 99)).alloc (.cells #[.slice (some ⟨mb,mo,none⟩) L.length cap,.int .i64 (at0:Nat)] 289)) w.heap.size Cls.zero:=(heap_alloc_old _ _ (by simp)).trans (heap_alloc_new _ _)
 have hb0:Below w.heap.size w ((w.alloc (.cells #[.int .u64 0,.int .u64 0,.int .u64 0,.int .u64 0] 99)).alloc (.cells #[.slice (some ⟨mb,mo,none⟩) L.length cap,.int .i64 (at0:Nat)] 289)):=(by repeat (first|exact Below.refl _ _|assumption|refine Below.drew ?_|refine Below.alloc ?_ (by first|(simp;done)|(simp;omega)|omega) _|refine Below.setCell ?_ (by first|(simp;done)|(simp;omega)|omega) _))
 have hsr:w.heap.size+1<((w.alloc (.cells #[.int .u64 0,.int .u64 0,.int .u64 0,.int .u64 0] 99)).alloc (.cells #[.slice (some ⟨mb,mo,none⟩) L.length cap,.int .i64 (at0:Nat)] 289)).heap.size:=by simp
 go_enter Tryz.func230,Tryz.ntmps230
 go_upto_region 2 with fail
 revert h1 hz hb0 hsr
 generalize (w.alloc (.cells #[.int .u64 0,.int .u64 0,.int .u64 0,.int .u64 0] 99)).alloc (.cells #[.slice (some ⟨mb,mo,none⟩) L.length cap,.int .i64 (at0:Nat)] 289)=wq
 intro h1 hz hb0 hsr
 have HZ:=Lib.hid hz
 obtain⟨z0,z1,z2,z3⟩:=hz.cells
 have f0:=zAF hz
 have hbw:=hb0
 clear hz
 cases e1:signAt L (at0+1) 94 with
 |false=>
  have hi0: ∃i0,i0=at0+1∧i0≤L.length:=⟨at0+1,rfl,by omega⟩
  obtain⟨i0,hi0,hi1⟩:=hi0
  have HB:Hid (zA7 L at0=match zA1 L at0 (L.length+2) Cls.zero i0 true with| .error f=> .error f| .ok (c,i)=> .ok (c,i+1)):=by
   simp only[Hid,zA7,e1,hi0]
   rfl
  go_wp2_with fail
  refine(zAL h1 at0 91 rfl rfl).mono ?_;rintro e ww ⟨rfl,rfl⟩
  go_wp2_with fail
  refine(zAL h1 (at0+1) 94 (by omega) rfl).mono ?_;rintro e ww ⟨rfl,rfl⟩
  go_wp2_with fail
  go_loopw [8,11] (fun i f wr=> ∃(k n:Nat) (c:Cls) (first:Bool),i= .int .i64 n∧f= .bool first∧n≤L.length∧i0≤n∧L.length+2≤k+n∧
    Hid (zA1 L at0 (L.length+2) Cls.zero i0 true=zA1 L at0 k c n first)∧zBz wr wq.heap.size c∧Below wq.heap.size wq wr) (fun i _ _=>L.length - (intOf i).toNat)
  case atStart=>exact⟨L.length+2,i0,Cls.zero,true,by rw[hi0];go_num,rfl,hi1,Nat.le_refl _,by omega,rfl,heap_alloc_new wq _,(by repeat (first|exact Below.refl _ _|assumption|refine Below.drew ?_|refine Below.alloc ?_ (by first|(simp;done)|(simp;omega)|omega) _|refine Below.setCell ?_ (by first|(simp;done)|(simp;omega)|omega) _))⟩
  case round=>
   obtain⟨k,n,c,first,rfl,rfl,hn1,hn2,hk,HS,hc,hbe⟩:=hrel
   have h2:=h1.below hbe
   have hz2:=HZ.out.below hbe
   have hls:=hb0.size
   clear z0 z1 z2 z3 f0
   obtain⟨z0,z1,z2,z3⟩:=hz2.cells
   have f0:=zAF hz2
   obtain⟨q0,q1,q2,q3⟩:=hc.cells
   have g0:=zAF hc
   have hcl:=hc.lt
   have HC:=Lib.hid hc
   have HZX:=Lib.hid hz2
   clear hc hz2
   cases first with
   |true=>
    go_wp2_with fail
    refine(zFn h2 n rfl (by omega) true).mono ?_;rintro e w2 ⟨v,rfl,hf,hb1⟩
    obtain⟨kk,rfl⟩: ∃m,k=m+1:=⟨k - 1,by omega⟩
    generalize hit:zAp L at0 n true=r at*
    obtain⟨a,fa⟩:=r
    have HT:=Lib.hid hit
    clear hit
    simp only at hf
    go_upto_region 13 with fail
    have hx:zFc (w2.alloc (.cells #[.int .u64 a.set.w0.toNat,.int .u64 a.set.w1.toNat,.int .u64 a.set.w2.toNat,.int .u64 a.set.w3.toNat,.int .u8 (a.b:Nat),.bool a.fin,.int .i64 (a.next:Nat)] 291)) w2.heap.size a:=heap_alloc_new w2 _
    have hbx:Below w2.heap.size w2 (w2.alloc (.cells #[.int .u64 a.set.w0.toNat,.int .u64 a.set.w1.toNat,.int .u64 a.set.w2.toNat,.int .u64 a.set.w3.toNat,.int .u8 (a.b:Nat),.bool a.fin,.int .i64 (a.next:Nat)] 291)):=(Below.refl _ _).alloc (Nat.le_refl _) _
    have hsx:w2.heap.size<(w2.alloc (.cells #[.int .u64 a.set.w0.toNat,.int .u64 a.set.w1.toNat,.int .u64 a.set.w2.toNat,.int .u64 a.set.w3.toNat,.int .u8 (a.b:Nat),.bool a.fin,.int .i64 (a.next:Nat)] 291)).heap.size:=by simp
    revert hx hbx hsx
    generalize w2.alloc (.cells #[.int .u64 a.set.w0.toNat,.int .u64 a.set.w1.toNat,.int .u64 a.set.w2.toNat,.int .u64 a.set.w3.toNat,.int .u8 (a.b:Nat),.bool a.fin,.int .i64 (a.next:Nat)] 291)=w3
    intro hx hbx hsx
    have hb3:Below wr.heap.size wr w3:=hb1.trans (hbx.mono hb1.size)
    have hfx:=hf.below hbx
    have hbe3:=hbe.trans (hb3.mono hbe.size)
    have hc3:=HC.out.below hb3
    have hz3:=HZ.out.below hbe3
    clear z0 z1 z2 z3 f0 q0 q1 q2 q3 g0
    obtain⟨z0,z1,z2,z3⟩:=hz3.cells
    have f0:=zAF hz3
    have his3:=hz3.is
    obtain⟨q0,q1,q2,q3⟩:=hc3.cells
    have g0:=zAF hc3
    obtain⟨x0,x1,x2,x3,x4,x5,x6⟩:=hx.cells
    have hl3:=hb3.size
    have hlx:=hbe.size
    have hls:=hb0.size
    have h4:w.heap.size<w3.heap.size:=by omega
    have h5:wq.heap.size<w3.heap.size:=by omega
    have HC3:=Lib.hid hc3
    have HZ3:=Lib.hid hz3
    have hl2:=hb1.size
    clear hc3 hz3 hf hbx
    generalize w2.heap.size=b9 at*
    cases fa with
    |some f=>
     obtain⟨fe,fp⟩:=f
     have HE:Hid (zA7 L at0= .error (fe,fp)):=by
      simp only[Hid]
      rw[HB.out,HS.out]
      simp[zA1,HT.out]
     obtain⟨fb,rfl,hfge,hflt,hfc0,hfc1⟩:=hfx
     have hne:w.heap.size≠fb:=by omega
     go_wp2_with fail
     refine zAA (X:=(some w.heap.size)) 12 [([0,1,2,3,4,5,6,7,8],9)] [10,11] (by kernel_rfl) (by kernel_rfl) rfl (fun _ _ _ _ _ h=>h) ?_
     simp only[zAM,zAC,zAE,zAD,zAB,List.getD_cons_zero,List.getD_cons_succ,List.drop_succ_cons,List.drop_nil]
     repeat (go_big_quiet_step (fail))
     refine wpQuiet_nil ?_
     go_wp2_with fail
     refine⟨(((zAI.of_setCell _).trans (zAI.of_setCell _)).trans (zAI.of_setCell _)).trans (zAI.of_setCell _),?_⟩
     repeat (go_big_quiet_step (fail))
     refine wpQuiet_nil ?_
     go_wp2_with fail
     rw[zBu]
     rw[HE.out]
     exact zGp Tryz.results230 rfl rfl rfl rfl his3 (Below.refl _ _).drew rfl (hbw.trans (hbe3.mono hls)) (Nat.le_refl _)
    |none=>
     have hv:v= .pointer none:=hfx
     subst hv
     clear hfx
     obtain⟨hn3,hn4⟩:=zCv HT.out h2.m.u
     have HS2:Hid (zA1 L at0 (L.length+2) Cls.zero i0 true=zA1 L at0 kk (c.or a.set) a.next false):=by
      simp only[Hid]
      rw[HS.out]
      simp[zA1,HT.out]
     have hne:wq.heap.size≠b9:=by omega
     go_wp2_with fail
     refine zAA (X:=(some wq.heap.size)) 8 [([1,2,4,5],0),([],3),([],6)] [7] (by kernel_rfl) (by kernel_rfl) rfl (fun _ _ _ _ _ h=>h) ?_
     simp only[zAM,zAC,zAE,zAD,zAB,List.getD_cons_zero,List.getD_cons_succ,List.drop_succ_cons,List.drop_nil]
     repeat (go_big_quiet_step (fail))
     refine wpQuiet_nil ?_
     go_wp2_with fail
     refine⟨zAI.refl _,?_⟩
     repeat (go_big_quiet_step (fail))
     refine wpQuiet_nil ?_
     go_wp2_with fail
     refine(zCh c a.set _).mono ?_;rintro e w4 ⟨rfl,hb4⟩
     have hkp:=zAI.of_below (X:=some wq.heap.size) hb4
     replace hb4:Below w3.heap.size w3 w4:=Below.trans (Below.refl _ _).drew hb4
     have hc4:=HC3.out.below hb4
     clear q0 q1 q2 q3 g0
     obtain⟨q0,q1,q2,q3⟩:=hc4.cells
     have g0:=zAF hc4
     have HC4:=Lib.hid hc4
     clear hc4
     go_wp2_with fail
     refine⟨hkp,?_⟩
     clear hkp
     repeat (go_big_quiet_step (fail))
     refine wpQuiet_nil ?_
     go_wp2_with fail
     refine⟨(((zAI.of_setCell _).trans (zAI.of_setCell _)).trans (zAI.of_setCell _)).trans (zAI.of_setCell _),?_⟩
     repeat (go_big_quiet_step (fail))
     refine wpQuiet_nil ?_
     go_wp2_with fail
     go_roundw
     case rel=>exact⟨kk,a.next,c.or a.set,false,rfl,rfl,hn4,by omega,by omega,HS2,zCm HC4.out (c.or a.set),(hbe3.trans (hb4.mono (by omega))).trans (zB6 (Nat.le_refl _) _)⟩
     case measure=>simp[intOf];omega
   |false=>
    cases e2:signAt L n 93 with
    |false=>
     go_wp2_with fail
     refine(zAL h2 n 93 rfl rfl).mono ?_;rintro e ww ⟨rfl,rfl⟩
     go_wp2_with fail
     refine(zFn h2 n rfl (by omega) false).mono ?_;rintro e w2 ⟨v,rfl,hf,hb1⟩
     obtain⟨kk,rfl⟩: ∃m,k=m+1:=⟨k - 1,by omega⟩
     generalize hit:zAp L at0 n false=r at*
     obtain⟨a,fa⟩:=r
     have HT:=Lib.hid hit
     clear hit
     simp only at hf
     go_upto_region 13 with fail
     have hx:zFc (w2.alloc (.cells #[.int .u64 a.set.w0.toNat,.int .u64 a.set.w1.toNat,.int .u64 a.set.w2.toNat,.int .u64 a.set.w3.toNat,.int .u8 (a.b:Nat),.bool a.fin,.int .i64 (a.next:Nat)] 291)) w2.heap.size a:=heap_alloc_new w2 _
     have hbx:Below w2.heap.size w2 (w2.alloc (.cells #[.int .u64 a.set.w0.toNat,.int .u64 a.set.w1.toNat,.int .u64 a.set.w2.toNat,.int .u64 a.set.w3.toNat,.int .u8 (a.b:Nat),.bool a.fin,.int .i64 (a.next:Nat)] 291)):=(Below.refl _ _).alloc (Nat.le_refl _) _
     have hsx:w2.heap.size<(w2.alloc (.cells #[.int .u64 a.set.w0.toNat,.int .u64 a.set.w1.toNat,.int .u64 a.set.w2.toNat,.int .u64 a.set.w3.toNat,.int .u8 (a.b:Nat),.bool a.fin,.int .i64 (a.next:Nat)] 291)).heap.size:=by simp
     revert hx hbx hsx
     generalize w2.alloc (.cells #[.int .u64 a.set.w0.toNat,.int .u64 a.set.w1.toNat,.int .u64 a.set.w2.toNat,.int .u64 a.set.w3.toNat,.int .u8 (a.b:Nat),.bool a.fin,.int .i64 (a.next:Nat)] 291)=w3
     intro hx hbx hsx
     have hb3:Below wr.heap.size wr w3:=hb1.trans (hbx.mono hb1.size)
     have hfx:=hf.below hbx
     have hbe3:=hbe.trans (hb3.mono hbe.size)
     have hc3:=HC.out.below hb3
     have hz3:=HZ.out.below hbe3
     clear z0 z1 z2 z3 f0 q0 q1 q2 q3 g0
     obtain⟨z0,z1,z2,z3⟩:=hz3.cells
     have f0:=zAF hz3
     have his3:=hz3.is
     obtain⟨q0,q1,q2,q3⟩:=hc3.cells
     have g0:=zAF hc3
     obtain⟨x0,x1,x2,x3,x4,x5,x6⟩:=hx.cells
     have hl3:=hb3.size
     have hlx:=hbe.size
     have hls:=hb0.size
     have h4:w.heap.size<w3.heap.size:=by omega
     have h5:wq.heap.size<w3.heap.size:=by omega
     have HC3:=Lib.hid hc3
     have HZ3:=Lib.hid hz3
     have hl2:=hb1.size
     clear hc3 hz3 hf hbx
     generalize w2.heap.size=b9 at*
     cases fa with
     |some f=>
      obtain⟨fe,fp⟩:=f
      have HE:Hid (zA7 L at0= .error (fe,fp)):=by
       simp only[Hid]
       rw[HB.out,HS.out]
       simp[zA1,HT.out,e2]
      obtain⟨fb,rfl,hfge,hflt,hfc0,hfc1⟩:=hfx
      have hne:w.heap.size≠fb:=by omega
      go_wp2_with fail
      refine zAA (X:=(some w.heap.size)) 12 [([0,1,2,3,4,5,6,7,8],9)] [10,11] (by kernel_rfl) (by kernel_rfl) rfl (fun _ _ _ _ _ h=>h) ?_
      simp only[zAM,zAC,zAE,zAD,zAB,List.getD_cons_zero,List.getD_cons_succ,List.drop_succ_cons,List.drop_nil]
      repeat (go_big_quiet_step (fail))
      refine wpQuiet_nil ?_
      go_wp2_with fail
      refine⟨(((zAI.of_setCell _).trans (zAI.of_setCell _)).trans (zAI.of_setCell _)).trans (zAI.of_setCell _),?_⟩
      repeat (go_big_quiet_step (fail))
      refine wpQuiet_nil ?_
      go_wp2_with fail
      rw[zBu]
      rw[HE.out]
      exact zGp Tryz.results230 rfl rfl rfl rfl his3 (Below.refl _ _).drew rfl (hbw.trans (hbe3.mono hls)) (Nat.le_refl _)
     |none=>
      have hv:v= .pointer none:=hfx
      subst hv
      clear hfx
      obtain⟨hn3,hn4⟩:=zCv HT.out h2.m.u
      have HS2:Hid (zA1 L at0 (L.length+2) Cls.zero i0 true=zA1 L at0 kk (c.or a.set) a.next false):=by
       simp only[Hid]
       rw[HS.out]
       simp[zA1,HT.out,e2]
      have hne:wq.heap.size≠b9:=by omega
      go_wp2_with fail
      refine zAA (X:=(some wq.heap.size)) 8 [([1,2,4,5],0),([],3),([],6)] [7] (by kernel_rfl) (by kernel_rfl) rfl (fun _ _ _ _ _ h=>h) ?_
      simp only[zAM,zAC,zAE,zAD,zAB,List.getD_cons_zero,List.getD_cons_succ,List.drop_succ_cons,List.drop_nil]
      repeat (go_big_quiet_step (fail))
      refine wpQuiet_nil ?_
      go_wp2_with fail
      refine⟨zAI.refl _,?_⟩
      repeat (go_big_quiet_step (fail))
      refine wpQuiet_nil ?_
      go_wp2_with fail
      refine(zCh c a.set _).mono ?_;rintro e w4 ⟨rfl,hb4⟩
      have hkp:=zAI.of_below (X:=some wq.heap.size) hb4
      replace hb4:Below w3.heap.size w3 w4:=Below.trans (Below.refl _ _).drew hb4
      have hc4:=HC3.out.below hb4
      clear q0 q1 q2 q3 g0
      obtain⟨q0,q1,q2,q3⟩:=hc4.cells
      have g0:=zAF hc4
      have HC4:=Lib.hid hc4
      clear hc4
      go_wp2_with fail
      refine⟨hkp,?_⟩
      clear hkp
      repeat (go_big_quiet_step (fail))
      refine wpQuiet_nil ?_
      go_wp2_with fail
      refine⟨(((zAI.of_setCell _).trans (zAI.of_setCell _)).trans (zAI.of_setCell _)).trans (zAI.of_setCell _),?_⟩
      repeat (go_big_quiet_step (fail))
      refine wpQuiet_nil ?_
      go_wp2_with fail
      go_roundw
      case rel=>exact⟨kk,a.next,c.or a.set,false,rfl,rfl,hn4,by omega,by omega,HS2,zCm HC4.out (c.or a.set),(hbe3.trans (hb4.mono (by omega))).trans (zB6 (Nat.le_refl _) _)⟩
      case measure=>simp[intOf];omega
    |true=>
     go_wp2_with fail
     refine(zAL h2 n 93 rfl rfl).mono ?_;rintro e ww ⟨rfl,rfl⟩
     go_wp2_with fail
     have HE:Hid (zA7 L at0= .ok (c,n+1)):=by
      obtain⟨kk,rfl⟩: ∃m,k=m+1:=⟨k - 1,by omega⟩
      simp only[Hid]
      rw[HB.out,HS.out]
      simp[zA1,e2]
     go_wp2_with fail
     rw[zBu]
     rw[HE.out]
     exact zGp Tryz.results230 rfl rfl rfl rfl HZX.out.is (Below.refl _ _) (by simp[brV]) (hbw.trans (hbe.mono hls)) (Nat.le_refl _)
 |true=>
  have hi0: ∃i0,i0=at0+2∧i0≤L.length:=⟨at0+2,rfl,by have:=zEd e1;omega⟩
  obtain⟨i0,hi0,hi1⟩:=hi0
  have HB:Hid (zA7 L at0=match zA1 L at0 (L.length+2) Cls.zero i0 true with| .error f=> .error f| .ok (c,i)=> .ok (c.not,i+1)):=by
   simp only[Hid,zA7,e1,hi0]
   rfl
  go_wp2_with fail
  refine(zAL h1 at0 91 rfl rfl).mono ?_;rintro e ww ⟨rfl,rfl⟩
  go_wp2_with fail
  refine(zAL h1 (at0+1) 94 (by omega) rfl).mono ?_;rintro e ww ⟨rfl,rfl⟩
  go_wp2_with fail
  go_loopw [8,11] (fun i f wr=> ∃(k n:Nat) (c:Cls) (first:Bool),i= .int .i64 n∧f= .bool first∧n≤L.length∧i0≤n∧L.length+2≤k+n∧
    Hid (zA1 L at0 (L.length+2) Cls.zero i0 true=zA1 L at0 k c n first)∧zBz wr wq.heap.size c∧Below wq.heap.size wq wr) (fun i _ _=>L.length - (intOf i).toNat)
  case atStart=>exact⟨L.length+2,i0,Cls.zero,true,by rw[hi0];go_num,rfl,hi1,Nat.le_refl _,by omega,rfl,heap_alloc_new wq _,(by repeat (first|exact Below.refl _ _|assumption|refine Below.drew ?_|refine Below.alloc ?_ (by first|(simp;done)|(simp;omega)|omega) _|refine Below.setCell ?_ (by first|(simp;done)|(simp;omega)|omega) _))⟩
  case round=>
   obtain⟨k,n,c,first,rfl,rfl,hn1,hn2,hk,HS,hc,hbe⟩:=hrel
   have h2:=h1.below hbe
   have hz2:=HZ.out.below hbe
   have hls:=hb0.size
   clear z0 z1 z2 z3 f0
   obtain⟨z0,z1,z2,z3⟩:=hz2.cells
   have f0:=zAF hz2
   obtain⟨q0,q1,q2,q3⟩:=hc.cells
   have g0:=zAF hc
   have hcl:=hc.lt
   have HC:=Lib.hid hc
   have HZX:=Lib.hid hz2
   clear hc hz2
   cases first with
   |true=>
    go_wp2_with fail
    refine(zFn h2 n rfl (by omega) true).mono ?_;rintro e w2 ⟨v,rfl,hf,hb1⟩
    obtain⟨kk,rfl⟩: ∃m,k=m+1:=⟨k - 1,by omega⟩
    generalize hit:zAp L at0 n true=r at*
    obtain⟨a,fa⟩:=r
    have HT:=Lib.hid hit
    clear hit
    simp only at hf
    go_upto_region 13 with fail
    have hx:zFc (w2.alloc (.cells #[.int .u64 a.set.w0.toNat,.int .u64 a.set.w1.toNat,.int .u64 a.set.w2.toNat,.int .u64 a.set.w3.toNat,.int .u8 (a.b:Nat),.bool a.fin,.int .i64 (a.next:Nat)] 291)) w2.heap.size a:=heap_alloc_new w2 _
    have hbx:Below w2.heap.size w2 (w2.alloc (.cells #[.int .u64 a.set.w0.toNat,.int .u64 a.set.w1.toNat,.int .u64 a.set.w2.toNat,.int .u64 a.set.w3.toNat,.int .u8 (a.b:Nat),.bool a.fin,.int .i64 (a.next:Nat)] 291)):=(Below.refl _ _).alloc (Nat.le_refl _) _
    have hsx:w2.heap.size<(w2.alloc (.cells #[.int .u64 a.set.w0.toNat,.int .u64 a.set.w1.toNat,.int .u64 a.set.w2.toNat,.int .u64 a.set.w3.toNat,.int .u8 (a.b:Nat),.bool a.fin,.int .i64 (a.next:Nat)] 291)).heap.size:=by simp
    revert hx hbx hsx
    generalize w2.alloc (.cells #[.int .u64 a.set.w0.toNat,.int .u64 a.set.w1.toNat,.int .u64 a.set.w2.toNat,.int .u64 a.set.w3.toNat,.int .u8 (a.b:Nat),.bool a.fin,.int .i64 (a.next:Nat)] 291)=w3
    intro hx hbx hsx
    have hb3:Below wr.heap.size wr w3:=hb1.trans (hbx.mono hb1.size)
    have hfx:=hf.below hbx
    have hbe3:=hbe.trans (hb3.mono hbe.size)
    have hc3:=HC.out.below hb3
    have hz3:=HZ.out.below hbe3
    clear z0 z1 z2 z3 f0 q0 q1 q2 q3 g0
    obtain⟨z0,z1,z2,z3⟩:=hz3.cells
    have f0:=zAF hz3
    have his3:=hz3.is
    obtain⟨q0,q1,q2,q3⟩:=hc3.cells
    have g0:=zAF hc3
    obtain⟨x0,x1,x2,x3,x4,x5,x6⟩:=hx.cells
    have hl3:=hb3.size
    have hlx:=hbe.size
    have hls:=hb0.size
    have h4:w.heap.size<w3.heap.size:=by omega
    have h5:wq.heap.size<w3.heap.size:=by omega
    have HC3:=Lib.hid hc3
    have HZ3:=Lib.hid hz3
    have hl2:=hb1.size
    clear hc3 hz3 hf hbx
    generalize w2.heap.size=b9 at*
    cases fa with
    |some f=>
     obtain⟨fe,fp⟩:=f
     have HE:Hid (zA7 L at0= .error (fe,fp)):=by
      simp only[Hid]
      rw[HB.out,HS.out]
      simp[zA1,HT.out]
     obtain⟨fb,rfl,hfge,hflt,hfc0,hfc1⟩:=hfx
     have hne:w.heap.size≠fb:=by omega
     go_wp2_with fail
     refine zAA (X:=(some w.heap.size)) 12 [([0,1,2,3,4,5,6,7,8],9)] [10,11] (by kernel_rfl) (by kernel_rfl) rfl (fun _ _ _ _ _ h=>h) ?_
     simp only[zAM,zAC,zAE,zAD,zAB,List.getD_cons_zero,List.getD_cons_succ,List.drop_succ_cons,List.drop_nil]
     repeat (go_big_quiet_step (fail))
     refine wpQuiet_nil ?_
     go_wp2_with fail
     refine⟨(((zAI.of_setCell _).trans (zAI.of_setCell _)).trans (zAI.of_setCell _)).trans (zAI.of_setCell _),?_⟩
     repeat (go_big_quiet_step (fail))
     refine wpQuiet_nil ?_
     go_wp2_with fail
     rw[zBu]
     rw[HE.out]
     exact zGp Tryz.results230 rfl rfl rfl rfl his3 (Below.refl _ _).drew rfl (hbw.trans (hbe3.mono hls)) (Nat.le_refl _)
    |none=>
     have hv:v= .pointer none:=hfx
     subst hv
     clear hfx
     obtain⟨hn3,hn4⟩:=zCv HT.out h2.m.u
     have HS2:Hid (zA1 L at0 (L.length+2) Cls.zero i0 true=zA1 L at0 kk (c.or a.set) a.next false):=by
      simp only[Hid]
      rw[HS.out]
      simp[zA1,HT.out]
     have hne:wq.heap.size≠b9:=by omega
     go_wp2_with fail
     refine zAA (X:=(some wq.heap.size)) 8 [([1,2,4,5],0),([],3),([],6)] [7] (by kernel_rfl) (by kernel_rfl) rfl (fun _ _ _ _ _ h=>h) ?_
     simp only[zAM,zAC,zAE,zAD,zAB,List.getD_cons_zero,List.getD_cons_succ,List.drop_succ_cons,List.drop_nil]
     repeat (go_big_quiet_step (fail))
     refine wpQuiet_nil ?_
     go_wp2_with fail
     refine⟨zAI.refl _,?_⟩
     repeat (go_big_quiet_step (fail))
     refine wpQuiet_nil ?_
     go_wp2_with fail
     refine(zCh c a.set _).mono ?_;rintro e w4 ⟨rfl,hb4⟩
     have hkp:=zAI.of_below (X:=some wq.heap.size) hb4
     replace hb4:Below w3.heap.size w3 w4:=Below.trans (Below.refl _ _).drew hb4
     have hc4:=HC3.out.below hb4
     clear q0 q1 q2 q3 g0
     obtain⟨q0,q1,q2,q3⟩:=hc4.cells
     have g0:=zAF hc4
     have HC4:=Lib.hid hc4
     clear hc4
     go_wp2_with fail
     refine⟨hkp,?_⟩
     clear hkp
     repeat (go_big_quiet_step (fail))
     refine wpQuiet_nil ?_
     go_wp2_with fail
     refine⟨(((zAI.of_setCell _).trans (zAI.of_setCell _)).trans (zAI.of_setCell _)).trans (zAI.of_setCell _),?_⟩
     repeat (go_big_quiet_step (fail))
     refine wpQuiet_nil ?_
     go_wp2_with fail
     go_roundw
     case rel=>exact⟨kk,a.next,c.or a.set,false,rfl,rfl,hn4,by omega,by omega,HS2,zCm HC4.out (c.or a.set),(hbe3.trans (hb4.mono (by omega))).trans (zB6 (Nat.le_refl _) _)⟩
     case measure=>simp[intOf];omega
   |false=>
    cases e2:signAt L n 93 with
    |false=>
     go_wp2_with fail
     refine(zAL h2 n 93 rfl rfl).mono ?_;rintro e ww ⟨rfl,rfl⟩
     go_wp2_with fail
     refine(zFn h2 n rfl (by omega) false).mono ?_;rintro e w2 ⟨v,rfl,hf,hb1⟩
     obtain⟨kk,rfl⟩: ∃m,k=m+1:=⟨k - 1,by omega⟩
     generalize hit:zAp L at0 n false=r at*
     obtain⟨a,fa⟩:=r
     have HT:=Lib.hid hit
     clear hit
     simp only at hf
     go_upto_region 13 with fail
     have hx:zFc (w2.alloc (.cells #[.int .u64 a.set.w0.toNat,.int .u64 a.set.w1.toNat,.int .u64 a.set.w2.toNat,.int .u64 a.set.w3.toNat,.int .u8 (a.b:Nat),.bool a.fin,.int .i64 (a.next:Nat)] 291)) w2.heap.size a:=heap_alloc_new w2 _
     have hbx:Below w2.heap.size w2 (w2.alloc (.cells #[.int .u64 a.set.w0.toNat,.int .u64 a.set.w1.toNat,.int .u64 a.set.w2.toNat,.int .u64 a.set.w3.toNat,.int .u8 (a.b:Nat),.bool a.fin,.int .i64 (a.next:Nat)] 291)):=(Below.refl _ _).alloc (Nat.le_refl _) _
     have hsx:w2.heap.size<(w2.alloc (.cells #[.int .u64 a.set.w0.toNat,.int .u64 a.set.w1.toNat,.int .u64 a.set.w2.toNat,.int .u64 a.set.w3.toNat,.int .u8 (a.b:Nat),.bool a.fin,.int .i64 (a.next:Nat)] 291)).heap.size:=by simp
     revert hx hbx hsx
     generalize w2.alloc (.cells #[.int .u64 a.set.w0.toNat,.int .u64 a.set.w1.toNat,.int .u64 a.set.w2.toNat,.int .u64 a.set.w3.toNat,.int .u8 (a.b:Nat),.bool a.fin,.int .i64 (a.next:Nat)] 291)=w3
     intro hx hbx hsx
     have hb3:Below wr.heap.size wr w3:=hb1.trans (hbx.mono hb1.size)
     have hfx:=hf.below hbx
     have hbe3:=hbe.trans (hb3.mono hbe.size)
     have hc3:=HC.out.below hb3
     have hz3:=HZ.out.below hbe3
     clear z0 z1 z2 z3 f0 q0 q1 q2 q3 g0
     obtain⟨z0,z1,z2,z3⟩:=hz3.cells
     have f0:=zAF hz3
     have his3:=hz3.is
     obtain⟨q0,q1,q2,q3⟩:=hc3.cells
     have g0:=zAF hc3
     obtain⟨x0,x1,x2,x3,x4,x5,x6⟩:=hx.cells
     have hl3:=hb3.size
     have hlx:=hbe.size
     have hls:=hb0.size
     have h4:w.heap.size<w3.heap.size:=by omega
     have h5:wq.heap.size<w3.heap.size:=by omega
     have HC3:=Lib.hid hc3
     have HZ3:=Lib.hid hz3
     have hl2:=hb1.size
     clear hc3 hz3 hf hbx
     generalize w2.heap.size=b9 at*
     cases fa with
     |some f=>
      obtain⟨fe,fp⟩:=f
      have HE:Hid (zA7 L at0= .error (fe,fp)):=by
       simp only[Hid]
       rw[HB.out,HS.out]
       simp[zA1,HT.out,e2]
      obtain⟨fb,rfl,hfge,hflt,hfc0,hfc1⟩:=hfx
      have hne:w.heap.size≠fb:=by omega
      go_wp2_with fail
      refine zAA (X:=(some w.heap.size)) 12 [([0,1,2,3,4,5,6,7,8],9)] [10,11] (by kernel_rfl) (by kernel_rfl) rfl (fun _ _ _ _ _ h=>h) ?_
      simp only[zAM,zAC,zAE,zAD,zAB,List.getD_cons_zero,List.getD_cons_succ,List.drop_succ_cons,List.drop_nil]
      repeat (go_big_quiet_step (fail))
      refine wpQuiet_nil ?_
      go_wp2_with fail
      refine⟨(((zAI.of_setCell _).trans (zAI.of_setCell _)).trans (zAI.of_setCell _)).trans (zAI.of_setCell _),?_⟩
      repeat (go_big_quiet_step (fail))
      refine wpQuiet_nil ?_
      go_wp2_with fail
      rw[zBu]
      rw[HE.out]
      exact zGp Tryz.results230 rfl rfl rfl rfl his3 (Below.refl _ _).drew rfl (hbw.trans (hbe3.mono hls)) (Nat.le_refl _)
     |none=>
      have hv:v= .pointer none:=hfx
      subst hv
      clear hfx
      obtain⟨hn3,hn4⟩:=zCv HT.out h2.m.u
      have HS2:Hid (zA1 L at0 (L.length+2) Cls.zero i0 true=zA1 L at0 kk (c.or a.set) a.next false):=by
       simp only[Hid]
       rw[HS.out]
       simp[zA1,HT.out,e2]
      have hne:wq.heap.size≠b9:=by omega
      go_wp2_with fail
      refine zAA (X:=(some wq.heap.size)) 8 [([1,2,4,5],0),([],3),([],6)] [7] (by kernel_rfl) (by kernel_rfl) rfl (fun _ _ _ _ _ h=>h) ?_
      simp only[zAM,zAC,zAE,zAD,zAB,List.getD_cons_zero,List.getD_cons_succ,List.drop_succ_cons,List.drop_nil]
      repeat (go_big_quiet_step (fail))
      refine wpQuiet_nil ?_
      go_wp2_with fail
      refine⟨zAI.refl _,?_⟩
      repeat (go_big_quiet_step (fail))
      refine wpQuiet_nil ?_
      go_wp2_with fail
      refine(zCh c a.set _).mono ?_;rintro e w4 ⟨rfl,hb4⟩
      have hkp:=zAI.of_below (X:=some wq.heap.size) hb4
      replace hb4:Below w3.heap.size w3 w4:=Below.trans (Below.refl _ _).drew hb4
      have hc4:=HC3.out.below hb4
      clear q0 q1 q2 q3 g0
      obtain⟨q0,q1,q2,q3⟩:=hc4.cells
      have g0:=zAF hc4
      have HC4:=Lib.hid hc4
      clear hc4
      go_wp2_with fail
      refine⟨hkp,?_⟩
      clear hkp
      repeat (go_big_quiet_step (fail))
      refine wpQuiet_nil ?_
      go_wp2_with fail
      refine⟨(((zAI.of_setCell _).trans (zAI.of_setCell _)).trans (zAI.of_setCell _)).trans (zAI.of_setCell _),?_⟩
      repeat (go_big_quiet_step (fail))
      refine wpQuiet_nil ?_
      go_wp2_with fail
      go_roundw
      case rel=>exact⟨kk,a.next,c.or a.set,false,rfl,rfl,hn4,by omega,by omega,HS2,zCm HC4.out (c.or a.set),(hbe3.trans (hb4.mono (by omega))).trans (zB6 (Nat.le_refl _) _)⟩
      case measure=>simp[intOf];omega
    |true=>
     go_wp2_with fail
     refine(zAL h2 n 93 rfl rfl).mono ?_;rintro e ww ⟨rfl,rfl⟩
     go_wp2_with fail
     have HE:Hid (zA7 L at0= .ok (c.not,n+1)):=by
      obtain⟨kk,rfl⟩: ∃m,k=m+1:=⟨k - 1,by omega⟩
      simp only[Hid]
      rw[HB.out,HS.out]
      simp[zA1,e2]
     go_wp2_with fail
     refine(zFF c _).mono ?_;rintro e w4 ⟨rfl,hb4⟩
     have hc4:=HC.out.below hb4
     have hz4:=HZX.out.below hb4
     clear z0 z1 z2 z3 f0 q0 q1 q2 q3 g0
     obtain⟨q0,q1,q2,q3⟩:=hc4.cells
     have g0:=zAF hc4
     obtain⟨z0,z1,z2,z3⟩:=hz4.cells
     have f0:=zAF hz4
     have HZ4:=Lib.hid hz4
     have hlx:=hbe.size
     have hbe4:=hbe.trans (hb4.mono hbe.size)
     clear hz4 hc4
     go_wp2_with fail
     rw[zBu]
     rw[zBu]
     rw[HE.out]
     have hzs:zBz (zGe w4 wq.heap.size c.not.w0.toNat c.not.w1.toNat c.not.w2.toNat c.not.w3.toNat) w.heap.size Cls.zero:=(zJL (by omega) _ _ _ _).trans HZ4.out
     exact zGp Tryz.results230 rfl rfl rfl rfl hzs.is (Below.refl _ _) (by simp[brV]) ((hbw.trans (hbe4.mono hls)).trans (zCr hls _ _ _ _)) (Nat.le_refl _)
end
end Go.Proofs.YtmaagpbjahjmhaaGreatDoor
