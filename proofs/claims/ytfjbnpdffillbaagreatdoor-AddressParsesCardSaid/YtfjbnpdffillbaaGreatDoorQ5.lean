/- Parts: Own Ra Wd We Wf Wg Wh Un. -/
import Derived.Test.YtfjbnpdffillbaaGreatDoorQ4
import Derived.Test.YtfjbnpdffillbaaGreatDoorQ1
import Derived.Maps.AppendAt
import Derived.Laws.AppendOwnNone
import Derived.Laws.BytesArg
set_option maxHeartbeats 6400000
set_option maxRecDepth 100000
namespace Go.Proofs.YtfjbnpdffillbaaGreatDoor
section
open Go.RowKit
structure ElT (P:Program) (t e:TypeId) (size bytes:Nat) (z:Value):Prop where
 ht:P.underlying t=some (.slice e)
 hi:(P.info? e).map (fun i=>(i.zero,i.size,i.bytes))=some (some z,size,bytes)
 hzs:z.cells.size=size
 hsz:0<size
def Src (w:World) (v:Value) (m:Nat) (news:List Value):Prop:=
 (v= .slice none 0 0∧m=0∧news=[])∨ ∃a c,v= .slice (some a) m c∧ ∀j u,news[j]?=some u→w.cell? (a.add j)=some u
theorem Src.nil (w:World):Src w (.slice none 0 0) 0 []:= .inl ⟨rfl,rfl,rfl⟩
theorem Src.own {w:World} {base e size n:Nat} {v:Value} {xs:List Value} (h:w.ownsRow base e size v n xs):Src w v n xs:=by
 rcases h.2 with ⟨rfl,rfl⟩|⟨g,cap,cur,rfl,hb,hg,rest⟩
 ·refine .inl ⟨rfl,rfl,zQE (by simpa using h.1)⟩
 ·exact .inr ⟨_,_,rfl,h.cells rfl⟩
theorem Src.new (w:World) (cs:List Value) (e m c:Nat):Src (w.alloc (.cells cs.toArray e)) (.slice (some ⟨w.heap.size,0,none⟩) m c) m cs:=by
 refine .inr ⟨_,_,rfl,fun j u hu=>?_⟩
 have hadd:(⟨w.heap.size,0,none⟩:Addr).add j=⟨w.heap.size,j,none⟩:=by unfold Addr.add;split<;>simp_all
 rw[hadd,zPu _ _ j _ e (0,0) (zPs w _)]
 simpa using hu
theorem zAt {P:Program} {w:World} {ops:Array Oper} {rest:List Oper} {o:Oper} {a:Act} {Q:Exit→Act→World→Prop} {t e:TypeId} {size bytes:Nat} {z:Value} (E:ElT P t e size bytes z)
  (hgd:o.guard=none) (s x:Operand) (ho:o.op= .call { callee:= .builtin .append,args:= #[s,x],argTypes:= #[t,t] })
  (base:Nat) {v sv:Value} {n m:Nat} {xs news:List Value} (hs:a.eval s=v) (hown:w.ownsRow base e size v n xs) (hx:a.eval x=sv) (hsrc:Src w sv m news)
  (hl:news.length=m*size) (h1: ∀u∈news,u.oneCell'=true) (h63:n+m≤maxLen) (hbytes:(n+m)*bytes≤140737488355328) (hbase:base≤w.heap.size)
  (h: ∀v' w',w'.ownsRow base e size v' (n+m) (xs++news)→w.grownBy w' v.ownBlock→(v'.ownBlock=v.ownBlock∨v'.ownBlock=some w.heap.size)→wpList P ops Q rest (a.put o.dst v') w'):
  wpList P ops Q (o::rest) a w:=by
 obtain⟨i,hi,hz0,hz1,hz2⟩:=info_parts E.hi
 rcases hsrc with ⟨rfl,rfl,rfl⟩|⟨ad,c,rfl,hc⟩
 ·refine wpList_append_own_none hgd s x t ho base e i size E.ht hi v n xs hs hown hx ?_
  have:=h v w (by simpa using hown) (World.grownBy.refl w _) (.inl rfl)
  exact this
 ·exact wpList_append_own_at w hgd s x t ho base e i z size bytes E.ht hi hz0 hz1 hz2 E.hzs E.hsz v n xs hs hown ad m c news hx hl hc h1 h63 hbytes hbase (fun v' w' h2 h3 _ h5=>h v' w' h2 h3 h5)
theorem zMs:ElT Tryz.prog 22 5 1 1 (.int .u8 0):=⟨Tryz.underlying22,by kernel_rfl,rfl,by decide⟩
def u8s (l:List Nat):List Value:=l.map fun b=> .int .u8 (b:Nat)
theorem zHG (l:List Nat):(u8s l).length=l.length:=by simp[u8s]
theorem zLi (l:List Nat): ∀u∈u8s l,u.oneCell'=true:=by
 intro u hu
 simp only[u8s,List.mem_map]at hu
 obtain⟨b,_,rfl⟩:=hu
 rfl
theorem zKW {w:World} {base n:Nat} {v:Value} {l:List Nat} (h:w.ownsRow base 5 1 v n (u8s l)):
  (convert 22 9 v).run Tryz.prog w= .ok (.string (strOfNums (l.map fun b:Nat=>(b:Int)))) w:=by
 rcases h.2 with ⟨rfl,rfl⟩|⟨g,cap,cur,rfl,hb,hg,hnc,hcm,hcs,htake⟩
 ·have hl:l=[]:=zQE (by have:=h.1;simpa [zHG]using this)
  subst hl
  exact run_convert_bytes_nil w _ _ Tryz.underlying22 Tryz.underlying5 _ _ _ Tryz.underlying9
 ·have hln:l.length=n:=by have:=h.1;simpa [zHG]using this
  refine run_convert_bytes_arg w _ _ Tryz.underlying22 Tryz.underlying5 g 0 n cap _ (by simpa using hln) (fun i hi=>?_) _ Tryz.underlying9
  have hadd:(⟨g,0,none⟩:Addr).add i=⟨g,0+i,none⟩:=by unfold Addr.add;split<;>simp_all
  rw[←hadd]
  refine h.cells (g:=g) rfl i _ ?_
  simp[u8s,List.getD_eq_getElem?_getD,show i<l.length by omega]
theorem zDw (l:List Nat) (h: ∀b∈l,b<256):zAW (strOfNums (l.map fun b:Nat=>(b:Int)))=l:=by
 simp only[zAW,strOfNums_data,List.map_map]
 conv=>rhs;rw[←List.map_id l]
 refine List.map_congr_left fun b hb=>?_
 have:=h b hb
 simp[Function.comp]
 omega
end
section
open Go.RowKit
def zAO (x:Nd):Array Value:= #[.int .i8 x.op,.int .u64 x.set.w0.toNat,.int .u64 x.set.w1.toNat,.int .u64 x.set.w2.toNat,.int .u64 x.set.w3.toNat,.int .i64 x.n,.int .i64 x.min,.int .i64 x.max,.int .i64 x.kids]
abbrev ndV (x:Nd):Value:= .agg #[.int .i8 x.op,.int .u64 x.set.w0.toNat,.int .u64 x.set.w1.toNat,.int .u64 x.set.w2.toNat,.int .u64 x.set.w3.toNat,.int .i64 x.n,.int .i64 x.min,.int .i64 x.max,.int .i64 x.kids]
def zCr (w:World) (B:Nat):Prop:= ∃cs:Array Value,cs.size=9∧w.heap[B]?=some (.cells cs 78 (0,0))
theorem zCr.lt {w:World} {B:Nat} (h:zCr w B):B<w.heap.size:=by
 obtain⟨_,_,h⟩:=h
 exact(zPn.1 h).1
def zGI (w:World) (B:Nat) (s0 s1 s2 s3 s4 s5 s6 s7 s8:Int):World:=(((((((((w).setCell ⟨B,0,none⟩ (.int .i8 s0)).setCell ⟨B,1,none⟩ (.int .u64 s1)).setCell ⟨B,2,none⟩ (.int .u64 s2)).setCell ⟨B,3,none⟩ (.int .u64 s3)).setCell ⟨B,4,none⟩ (.int .u64 s4)).setCell ⟨B,5,none⟩ (.int .i64 s5)).setCell ⟨B,6,none⟩ (.int .i64 s6)).setCell ⟨B,7,none⟩ (.int .i64 s7)).setCell ⟨B,8,none⟩ (.int .i64 s8)
theorem zBK (w:World) (B:Nat) (s0 s1 s2 s3 s4 s5 s6 s7 s8:Int):(((((((((w).setCell ⟨B,0,none⟩ (.int .i8 s0)).setCell ⟨B,1,none⟩ (.int .u64 s1)).setCell ⟨B,2,none⟩ (.int .u64 s2)).setCell ⟨B,3,none⟩ (.int .u64 s3)).setCell ⟨B,4,none⟩ (.int .u64 s4)).setCell ⟨B,5,none⟩ (.int .i64 s5)).setCell ⟨B,6,none⟩ (.int .i64 s6)).setCell ⟨B,7,none⟩ (.int .i64 s7)).setCell ⟨B,8,none⟩ (.int .i64 s8)=zGI w B s0 s1 s2 s3 s4 s5 s6 s7 s8:=rfl
theorem zHt {w:World} {B:Nat} (h:zCr w B) (s0 s1 s2 s3 s4 s5 s6 s7 s8:Int):(zGI w B s0 s1 s2 s3 s4 s5 s6 s7 s8).heap[B]?=some (.cells #[.int .i8 s0,.int .u64 s1,.int .u64 s2,.int .u64 s3,.int .u64 s4,.int .i64 s5,.int .i64 s6,.int .i64 s7,.int .i64 s8] 78 (0,0)):=by
 obtain⟨cs,hs,h⟩:=h
 obtain⟨a0,a1,a2,a3,a4,a5,a6,a7,a8,rfl⟩: ∃a0 a1 a2 a3 a4 a5 a6 a7 a8,cs= #[a0,a1,a2,a3,a4,a5,a6,a7,a8]:=by
  obtain⟨l⟩:=cs
  match l,hs with
  |[a0,a1,a2,a3,a4,a5,a6,a7,a8],_=>exact⟨a0,a1,a2,a3,a4,a5,a6,a7,a8,rfl⟩
 simp[zGI,World.setCell,Array.getElem?_modify,h]
theorem zAm {w:World} {B k:Nat} (h:k≤B) (s0 s1 s2 s3 s4 s5 s6 s7 s8:Int):Below k w (zGI w B s0 s1 s2 s3 s4 s5 s6 s7 s8):=((((((((((zPg k w).setCell (p:=⟨B,0,none⟩) h _).setCell (p:=⟨B,1,none⟩) h _).setCell (p:=⟨B,2,none⟩) h _).setCell (p:=⟨B,3,none⟩) h _).setCell (p:=⟨B,4,none⟩) h _).setCell (p:=⟨B,5,none⟩) h _).setCell (p:=⟨B,6,none⟩) h _).setCell (p:=⟨B,7,none⟩) h _).setCell (p:=⟨B,8,none⟩) h _)
theorem zGY {w1:World} {B:Nat} {s0 s1 s2 s3 s4 s5 s6 s7 s8:Int} (h1:w1.heap[B]?=some (.cells #[.int .i8 s0,.int .u64 s1,.int .u64 s2,.int .u64 s3,.int .u64 s4,.int .i64 s5,.int .i64 s6,.int .i64 s7,.int .i64 s8] 78 (0,0))):
  (loadVar 78 ⟨B,0,none⟩).run Tryz.prog w1= .ok (.agg #[.int .i8 s0,.int .u64 s1,.int .u64 s2,.int .u64 s3,.int .u64 s4,.int .i64 s5,.int .i64 s6,.int .i64 s7,.int .i64 s8]) w1:=by
 have hc: ∀j,w1.cell? ⟨B,j,none⟩=(#[.int .i8 s0,.int .u64 s1,.int .u64 s2,.int .u64 s3,.int .u64 s4,.int .i64 s5,.int .i64 s6,.int .i64 s7,.int .i64 s8]:Array Value)[j]?:=fun j=>zPu w1 B j _ _ (0,0) h1
 have c0:=hc 0
 have c1:=hc 1
 have c2:=hc 2
 have c3:=hc 3
 have c4:=hc 4
 have c5:=hc 5
 have c6:=hc 6
 have c7:=hc 7
 have c8:=hc 8
 simp only[List.getElem?_toArray,List.getElem?_cons_zero,List.getElem?_cons_succ]at c0 c1 c2 c3 c4 c5 c6 c7 c8
 simp[go_sem,c0,c1,c2,c3,c4,c5,c6,c7,c8]
theorem zCi {fn:Func} {p:Tmp} {ty:TypeId} (h:fn.results= #[.cell p ty]) (tmps:Array Value) (P:Program) (w:World):
  (results fn tmps).run P w=((asAddr (tmps.getD p undef)).run P w).andThen fun a w₁=>(loadVar ty a).run P w₁:=by
 simp only[results,h]
 simp[Sem.run_bind,Result.andThen]
theorem zOj {fn:Func} {p:Tmp} (h:fn.results= #[.cell p 78]) {a:Act} {w W w0:World} {B:Nat} {s0 s1 s2 s3 s4 s5 s6 s7 s8:Int} {x:Nd}
  (ha:a.tmps.getD p undef= .pointer (some ⟨B,0,none⟩)) (hd:a.defers=[]) (his:zCr w B) (hW:Below (B+1) (zGI w B s0 s1 s2 s3 s4 s5 s6 s7 s8) W)
  (hx:ndV x= .agg #[.int .i8 s0,.int .u64 s1,.int .u64 s2,.int .u64 s3,.int .u64 s4,.int .i64 s5,.int .i64 s6,.int .i64 s7,.int .i64 s8]) (hb:Below w0.heap.size w0 w) (hB:w0.heap.size≤B):
  bodyPost Tryz.prog fn (fun e w'=>e= .returned (ndV x)∧Below w0.heap.size w0 w') .ret a W:=by
 refine zQG (v:=ndV x) ?_ hd ⟨rfl,(hb.trans (zAm hB _ _ _ _ _ _ _ _ _)).trans (hW.mono (by omega))⟩
 rw[zCi h,ha,hx]
 simp[asAddr,zGY ((hW.block B (Nat.lt_succ_self _)).trans (zHt his s0 s1 s2 s3 s4 s5 s6 s7 s8)),Result.andThen]
def zG7 (w:World):World:=w.alloc (.cells #[.int .i8 0,.int .u64 0,.int .u64 0,.int .u64 0,.int .u64 0,.int .i64 0,.int .i64 0,.int .i64 0,.int .i64 0] 78)
theorem zKO (w:World):zCr (zG7 w) w.heap.size:=⟨_,rfl,zPs w _⟩
theorem zDR (w:World):(zG7 w).heap.size=w.heap.size+1:=by simp[zG7]
theorem zDd (w:World):Below w.heap.size w (zG7 w):=(zPg _ _).alloc (zPh _) _
theorem zHe (w:World):w.alloc (.cells #[.int .i8 0,.int .u64 0,.int .u64 0,.int .u64 0,.int .u64 0,.int .i64 0,.int .i64 0,.int .i64 0,.int .i64 0] 78)=zG7 w:=rfl
theorem zCr.below {w w':World} {B:Nat} (h:zCr w B) (hb:Below w.heap.size w w'):zCr w' B:=by
 obtain⟨cs,hs,hc⟩:=h
 exact⟨cs,hs,(hb.block B (zCr.lt ⟨cs,hs,hc⟩)).trans hc⟩
theorem zCr.cells {w:World} {B:Nat} (h:zCr w B): ∃a0 a1 a2 a3 a4 a5 a6 a7 a8,w.cell? ⟨B,0,none⟩=some a0∧w.cell? ⟨B,1,none⟩=some a1∧w.cell? ⟨B,2,none⟩=some a2∧w.cell? ⟨B,3,none⟩=some a3∧w.cell? ⟨B,4,none⟩=some a4∧w.cell? ⟨B,5,none⟩=some a5∧w.cell? ⟨B,6,none⟩=some a6∧w.cell? ⟨B,7,none⟩=some a7∧w.cell? ⟨B,8,none⟩=some a8∧(∀o,w.frozen? ⟨B,o,none⟩=false):=by
 obtain⟨cs,hs,h⟩:=h
 obtain⟨a0,a1,a2,a3,a4,a5,a6,a7,a8,rfl⟩: ∃a0 a1 a2 a3 a4 a5 a6 a7 a8,cs= #[a0,a1,a2,a3,a4,a5,a6,a7,a8]:=by
  obtain⟨l⟩:=cs
  match l,hs with
  |[a0,a1,a2,a3,a4,a5,a6,a7,a8],_=>exact⟨a0,a1,a2,a3,a4,a5,a6,a7,a8,rfl⟩
 have hc: ∀j,w.cell? ⟨B,j,none⟩=(#[a0,a1,a2,a3,a4,a5,a6,a7,a8]:Array Value)[j]?:=fun j=>zPu w B j _ _ (0,0) h
 exact⟨a0,a1,a2,a3,a4,a5,a6,a7,a8,hc 0,hc 1,hc 2,hc 3,hc 4,hc 5,hc 6,hc 7,hc 8,zAE h⟩
theorem zEQ (b:Nat) (hb:b<256) (w:World):
  Calls Tryz.prog 155 #[.int .u8 (b:Nat)] w fun e w'=>e= .returned (ndV (zCe b))∧Below w.heap.size w w':=by
 have hof:=zEw [b] #[.int .u8 (b:Nat)] rfl (by simpa using hb) (by simp)
 unfold zCe
 generalize Cls.of [b]=c at hof ⊢
 go_enter Tryz.func155,Tryz.ntmps155
 go_wp2_with fail
 rw[zHe,←zDR]
 refine(hof (zG7 w)).mono ?_
 intro e w1 h
 obtain⟨he,hb1⟩:=h
 subst he
 have hb2:Below (zG7 w).heap.size (zG7 w) w1:=Below.trans ((zPg _ _).alloc (zPh _) _) (hb1.mono (by simp))
 have hbe:Below w.heap.size w w1:=(zDd w).trans (hb2.mono (by rw[zDR];omega))
 have his:zCr w1 w.heap.size:=(zKO w).below hb2
 obtain⟨a0,a1,a2,a3,a4,a5,a6,a7,a8,c0,c1,c2,c3,c4,c5,c6,c7,c8,f0⟩:=his.cells
 clear hof hb1 hb2
 obtain⟨x0,x1,x2,x3⟩:=c
 have HI:=zPf his
 have HB:=zPf hbe
 clear his hbe
 go_wp2_with fail
 rw[zBK]
 exact zOj Tryz.results155 rfl rfl HI.out (zPg _ _) rfl HB.out (zPh _)
end
section
open Go.RowKit
structure zE8 (w:World) (mb mo:Nat) (L:List Mk):Prop where
 lt:mb<w.heap.size
 len:L.length≤4096
 b: ∀i,i<L.length→w.cell? ⟨mb,mo+i*2,none⟩=some (.int .u8 ((zAH L i).b:Int))
 p: ∀i,i<L.length→w.cell? ⟨mb,mo+i*2+1,none⟩=some (.bool (zAH L i).p)
 u: ∀i,i<L.length→(zAH L i).b<256
theorem zE8.below {w w':World} {mb mo:Nat} {L:List Mk} (h:zE8 w mb mo L) (hb:Below w.heap.size w w'):zE8 w' mb mo L:=
 ⟨zPi h.lt hb.size,h.len,fun i hi=>(hb.cell (p:=⟨mb,mo+i*2,none⟩) h.lt).trans (h.b i hi),fun i hi=>(hb.cell (p:=⟨mb,mo+i*2+1,none⟩) h.lt).trans (h.p i hi),h.u⟩
structure Br (w:World) (rb mb mo cap:Nat) (L:List Mk) (at0:Nat):Prop where
 lt:rb<w.heap.size
 c0:w.cell? ⟨rb,0,none⟩=some (.slice (some ⟨mb,mo,none⟩) L.length cap)
 c1:w.cell? ⟨rb,1,none⟩=some (.int .i64 at0)
 m:zE8 w mb mo L
 h0:at0≤4096
theorem Br.below {w w':World} {rb mb mo cap:Nat} {L:List Mk} {at0:Nat} (h:Br w rb mb mo cap L at0) (hb:Below w.heap.size w w'):Br w' rb mb mo cap L at0:=
 ⟨zPi h.lt hb.size,(hb.cell (p:=⟨rb,0,none⟩) h.lt).trans h.c0,(hb.cell (p:=⟨rb,1,none⟩) h.lt).trans h.c1,h.m.below hb,h.h0⟩
theorem zAK {rb mb mo cap:Nat} {L:List Mk} {at0:Nat} {w:World} (h:Br w rb mb mo cap L at0) {i c:Int} (n k:Nat) (hi:i=n) (hc:c=k):
  Calls Tryz.prog 181 #[.pointer (some ⟨rb,0,none⟩),.int .i64 i,.int .u8 c] w fun e w'=>e= .returned (.bool (signAt L n k))∧w=w':=by
 subst hi
 subst hc
 obtain⟨hrb,h0,_,hm,_⟩:=h
 have hL:=hm.len
 by_cases hlt:n<L.length
 ·have hb:=hm.b n hlt
  have hp:=hm.p n hlt
  have hs:Hid (signAt L n k=((zAH L n).b==k&& !(zAH L n).p)):=by simp[Hid,signAt,hlt]
  clear hm
  go_enter Tryz.func181,Tryz.ntmps181
  go_wp2_with fail
  all_goals
   go_ret
   refine⟨zAk ?_,rfl⟩
   rw[hs.out]
   by_cases e:(zAH L n).b=k<;>cases hp':(zAH L n).p<;>simp_all<;>omega
 ·have hs:Hid (signAt L n k=false):=by simp[Hid,signAt,hlt]
  clear hm
  go_enter Tryz.func181,Tryz.ntmps181
  go_wp2_with fail
  go_ret
  exact⟨zAk hs.out.symm,rfl⟩
def Flt (base:Nat) (w:World) (v:Value):Option (Nat × Nat)→Prop
 |none=>v= .pointer none
 |some (e,at_)=> ∃b,v= .pointer (some ⟨b,0,none⟩)∧base≤b∧b<w.heap.size∧w.cell? ⟨b,0,none⟩=some (.int .i64 (e:Nat))∧w.cell? ⟨b,1,none⟩=some (.int .i64 (at_:Nat))
theorem Flt.below {base:Nat} {w w':World} {v:Value} {f:Option (Nat × Nat)} (h:Flt base w v f) (hb:Below w.heap.size w w'):Flt base w' v f:=by
 cases f with
 |none=>exact h
 |some p=>
  obtain⟨b,rfl,hge,hlt,h0,h1⟩:=h
  exact⟨b,rfl,hge,zPi hlt hb.size,(hb.cell (p:=⟨b,0,none⟩) hlt).trans h0,(hb.cell (p:=⟨b,1,none⟩) hlt).trans h1⟩
theorem Flt.mono {base k:Nat} {w:World} {v:Value} {f:Option (Nat × Nat)} (h:Flt base w v f) (hk:k≤base):Flt k w v f:=by
 cases f with
 |none=>exact h
 |some p=>
  obtain⟨b,rfl,hge,rest⟩:=h
  exact⟨b,rfl,by omega,rest⟩
theorem zDB {base:Nat} {w:World} {n e at_:Nat} {t:TypeId} (h:n=w.heap.size) (hb:base≤w.heap.size):Flt base (w.alloc (.cells #[.int .i64 (e:Nat),.int .i64 (at_:Nat)] t)) (.pointer (some ⟨n,0,none⟩)) (some (e,at_)):=by
 subst h
 exact⟨w.heap.size,rfl,hb,by simp,by rw[cell_of_row _ _ 0 _ t (0,0) (heap_alloc_new w _)];rfl,by rw[cell_of_row _ _ 1 _ t (0,0) (heap_alloc_new w _)];rfl⟩
theorem zEu {rb mb mo cap:Nat} {L:List Mk} {at0:Nat} {w:World} (h:Br w rb mb mo cap L at0):
  Calls Tryz.prog 209 #[.pointer (some ⟨rb,0,none⟩)] w fun e w'=> ∃v,e= .returned v∧Flt w.heap.size w' v (some (32,at0))∧Below w.heap.size w w':=by
 obtain⟨hrb,h0,h1,hm,_⟩:=h
 clear hm
 go_enter Tryz.func209,Tryz.ntmps209
 go_wp2_with fail
 go_ret
 exact⟨_,rfl,zDB (e:=32) rfl (zPh _),(by repeat (first|exact zPg _ _|assumption|refine zP8 ?_|refine zP6 ?_ (by first|(simp;done)|(simp;omega)|omega) _|refine zP7 ?_ (by first|(simp;done)|(simp;omega)|omega) _))⟩
def zN5 (t:Th):Array Value:= #[.int .u64 t.set.w0.toNat,.int .u64 t.set.w1.toNat,.int .u64 t.set.w2.toNat,.int .u64 t.set.w3.toNat,.int .u8 (t.b:Nat),.bool t.fin,.int .i64 (t.next:Nat)]
abbrev thV (t:Th):Value:= .agg #[.int .u64 t.set.w0.toNat,.int .u64 t.set.w1.toNat,.int .u64 t.set.w2.toNat,.int .u64 t.set.w3.toNat,.int .u8 (t.b:Nat),.bool t.fin,.int .i64 (t.next:Nat)]
def zFq (w:World) (B:Nat) (t:Th):Prop:=w.heap[B]?=some (.cells (zN5 t) 253 (0,0))
theorem zFq.lt {w:World} {B:Nat} {t:Th} (h:zFq w B t):B<w.heap.size:=(zPn.1 h).1
theorem zFq.below {w w':World} {B:Nat} {t:Th} (h:zFq w B t) (hb:Below w.heap.size w w'):zFq w' B t:=(hb.block B h.lt).trans h
theorem zFq.cells {w:World} {B:Nat} {t:Th} (h:zFq w B t):
  w.cell? ⟨B,0,none⟩=some (.int .u64 t.set.w0.toNat)∧w.cell? ⟨B,1,none⟩=some (.int .u64 t.set.w1.toNat)∧w.cell? ⟨B,2,none⟩=some (.int .u64 t.set.w2.toNat)∧w.cell? ⟨B,3,none⟩=some (.int .u64 t.set.w3.toNat)∧
  w.cell? ⟨B,4,none⟩=some (.int .u8 (t.b:Nat))∧w.cell? ⟨B,5,none⟩=some (.bool t.fin)∧w.cell? ⟨B,6,none⟩=some (.int .i64 (t.next:Nat)):=by
 refine⟨?_,?_,?_,?_,?_,?_,?_⟩<;>rw[zPu w B _ _ _ (0,0) h]<;>rfl
def zMm (r:Th × Option (Nat × Nat)) (w:World) (e:Ending) (w':World):Prop:= ∃v,e= .returned (.tuple #[thV r.1,v])∧Flt w.heap.size w' v r.2∧Below w.heap.size w w'
theorem zIe {P:Program} {fn:Func} {p u:Tmp} {ty:TypeId} (h:fn.results= #[.cell p ty,.tmp u]) {a:Act} {w:World} {ad:Addr} {V x:Value} {R:Ending→World→Prop} (ha:a.tmps.getD p undef= .pointer (some ad))
  (hu:a.tmps.getD u undef=x) (hl:(loadVar ty ad).run P w= .ok V w) (hd:a.defers=[]) (hR:R (.returned (.tuple #[V,x])) w):bodyPost P fn R .ret a w:=by
 refine zQG (v:= .tuple #[V,x]) ?_ hd hR
 rw[Go.results_cell_tmp h,ha,hu]
 simp[asAddr,hl,Result.andThen]
def zJ2 (w:World) (B:Nat):Prop:= ∃a0 a1 a2 a3 a4 a5 a6:Value,w.heap[B]?=some (.cells #[a0,a1,a2,a3,a4,a5,a6] 253 (0,0))
theorem zFq.is {w:World} {B:Nat} {t:Th} (h:zFq w B t):zJ2 w B:=⟨_,_,_,_,_,_,_,h⟩
theorem zJ2.lt {w:World} {B:Nat} (h:zJ2 w B):B<w.heap.size:=by
 obtain⟨_,_,_,_,_,_,_,h⟩:=h
 exact(zPn.1 h).1
theorem zJ2.below {w w':World} {B:Nat} (h:zJ2 w B) (hb:Below w.heap.size w w'):zJ2 w' B:=by
 have hlt:=h.lt
 obtain⟨a0,a1,a2,a3,a4,a5,a6,h⟩:=h
 exact⟨a0,a1,a2,a3,a4,a5,a6,(hb.block B hlt).trans h⟩
@[go_sem ↓ high] theorem zOb (w:World) (o:Obj) (B:Nat) (h:zJ2 w B):zJ2 (w.alloc o) B=True:=eq_true (h.below ((zPg _ _).alloc (zPh _) o))
@[go_sem ↓ high] theorem zOu (w:World) (B:Nat) (h:zJ2 w B):zJ2 w.drew B=True:=eq_true h
def zG3 (w:World) (B:Nat) (s0 s1 s2 s3 b:Int) (e:Bool) (n:Int):World:=
 ((((((w.setCell ⟨B,0,none⟩ (.int .u64 s0)).setCell ⟨B,1,none⟩ (.int .u64 s1)).setCell ⟨B,2,none⟩ (.int .u64 s2)).setCell ⟨B,3,none⟩ (.int .u64 s3)).setCell
  ⟨B,4,none⟩ (.int .u8 b)).setCell ⟨B,5,none⟩ (.bool e)).setCell ⟨B,6,none⟩ (.int .i64 n)
theorem zAL (w:World) (B:Nat) (s0 s1 s2 s3 b:Int) (e:Bool) (n:Int):
  ((((((w.setCell ⟨B,0,none⟩ (.int .u64 s0)).setCell ⟨B,1,none⟩ (.int .u64 s1)).setCell ⟨B,2,none⟩ (.int .u64 s2)).setCell ⟨B,3,none⟩ (.int .u64 s3)).setCell
   ⟨B,4,none⟩ (.int .u8 b)).setCell ⟨B,5,none⟩ (.bool e)).setCell ⟨B,6,none⟩ (.int .i64 n)=zG3 w B s0 s1 s2 s3 b e n:=rfl
theorem zM9 {w:World} {B:Nat} (h:zJ2 w B) (s0 s1 s2 s3 b:Int) (e:Bool) (n:Int):
  (zG3 w B s0 s1 s2 s3 b e n).heap[B]?=some (.cells #[.int .u64 s0,.int .u64 s1,.int .u64 s2,.int .u64 s3,.int .u8 b,.bool e,.int .i64 n] 253 (0,0)):=by
 obtain⟨a0,a1,a2,a3,a4,a5,a6,h⟩:=h
 simp[zG3,World.setCell,Array.getElem?_modify,h]
theorem zJW {w:World} {B k:Nat} (h:k≤B) (s0 s1 s2 s3 b:Int) (e:Bool) (n:Int):Below k w (zG3 w B s0 s1 s2 s3 b e n):=
 (((((((zPg k w).setCell (p:=⟨B,0,none⟩) h _).setCell (p:=⟨B,1,none⟩) h _).setCell (p:=⟨B,2,none⟩) h _).setCell (p:=⟨B,3,none⟩) h _).setCell (p:=⟨B,4,none⟩) h _).setCell (p:=⟨B,5,none⟩) h _).setCell (p:=⟨B,6,none⟩) h _
theorem zGG {w:World} {B k:Nat} (h:k≠B) (s0 s1 s2 s3 b:Int) (e:Bool) (n:Int):(zG3 w B s0 s1 s2 s3 b e n).heap[k]?=w.heap[k]?:=by
 unfold zG3
 rw[zPp _ _ _ _ h,zPp _ _ _ _ h,zPp _ _ _ _ h,zPp _ _ _ _ h,zPp _ _ _ _ h,zPp _ _ _ _ h,zPp _ _ _ _ h]
theorem zAM {w:World} {B:Nat} (s0 s1 s2 s3 b:Int) (e:Bool) (n:Int):(zG3 w B s0 s1 s2 s3 b e n).heap.size=w.heap.size:=by simp[zG3]
theorem zMN {w1:World} {B:Nat} {s0 s1 s2 s3 b:Int} {e:Bool} {n:Int} (h1:w1.heap[B]?=some (.cells #[.int .u64 s0,.int .u64 s1,.int .u64 s2,.int .u64 s3,.int .u8 b,.bool e,.int .i64 n] 253 (0,0))):
  (loadVar 253 ⟨B,0,none⟩).run Tryz.prog w1= .ok (.agg #[.int .u64 s0,.int .u64 s1,.int .u64 s2,.int .u64 s3,.int .u8 b,.bool e,.int .i64 n]) w1:=by
 have hc: ∀j,w1.cell? ⟨B,j,none⟩=(#[.int .u64 s0,.int .u64 s1,.int .u64 s2,.int .u64 s3,.int .u8 b,.bool e,.int .i64 n]:Array Value)[j]?:=fun j=>zPu w1 B j _ _ (0,0) h1
 have c0:=hc 0
 have c1:=hc 1
 have c2:=hc 2
 have c3:=hc 3
 have c4:=hc 4
 have c5:=hc 5
 have c6:=hc 6
 simp only[List.getElem?_toArray,List.getElem?_cons_zero,List.getElem?_cons_succ]at c0 c1 c2 c3 c4 c5 c6
 simp[go_sem,c0,c1,c2,c3,c4,c5,c6]
theorem zAv {fn:Func} {p u:Tmp} (h:fn.results= #[.cell p 253,.tmp u]) {a:Act} {w W w0:World} {B:Nat} {s0 s1 s2 s3 b:Int} {e:Bool} {n:Int} {v:Value} {r:Th × Option (Nat × Nat)}
  (ha:a.tmps.getD p undef= .pointer (some ⟨B,0,none⟩)) (hu:a.tmps.getD u undef=v) (hd:a.defers=[]) (his:zJ2 w B) (hW:Below (B+1) (zG3 w B s0 s1 s2 s3 b e n) W)
  (hv:thV r.1= .agg #[.int .u64 s0,.int .u64 s1,.int .u64 s2,.int .u64 s3,.int .u8 b,.bool e,.int .i64 n]) (hf:Flt w0.heap.size W v r.2) (hb:Below w0.heap.size w0 w) (hB:w0.heap.size≤B):
  bodyPost Tryz.prog fn (zMm r w0) .ret a W:=by
 refine zIe h ha hu (zMN ((hW.block B (Nat.lt_succ_self _)).trans (zM9 his s0 s1 s2 s3 b e n))) hd ⟨v,?_,hf,(hb.trans (zJW hB _ _ _ _ _ _ _)).trans (hW.mono (by omega))⟩
 rw[hv]
theorem Flt.set {base:Nat} {w:World} {v:Value} {f:Option (Nat × Nat)} {B:Nat} (h:Flt base w v f) (hB:B<base) (s0 s1 s2 s3 b:Int) (e:Bool) (n:Int):Flt base (zG3 w B s0 s1 s2 s3 b e n) v f:=by
 cases f with
 |none=>simp only[Flt]at h ⊢;exact h
 |some p=>
  obtain⟨c,rfl,hge,hlt,h0,h1⟩:=h
  have hne:c≠B:=by omega
  refine⟨c,rfl,hge,by rw[zAM];exact hlt,?_,?_⟩
  ·exact(zPj (a:=⟨c,0,none⟩) (zGG (w:=w) hne _ _ _ _ _ _ _)).trans h0
  ·exact(zPj (a:=⟨c,1,none⟩) (zGG (w:=w) hne _ _ _ _ _ _ _)).trans h1
theorem zIs {L:List Mk} {at0 b0 n i:Nat} {s:List Nat} (h1:signAt L i 58=true) (h2:signAt L (i+1) 93=true):
  zCj L at0 b0 (n+1) i s=match zAn s with|none=>(Th.zero,some (31,b0))|some c=>(⟨c,0,false,i+2⟩,none):=by simp[zCj,h1,h2];cases zAn s<;>rfl
theorem zMI {L:List Mk} {at0 b0 n i:Nat} {s:List Nat} (h:(signAt L i 58&&signAt L (i+1) 93)=false):
  zCj L at0 b0 (n+1) i s=zCj L at0 b0 n (i+1) (s++[(zAH L i).b]):=by simp[zCj,h]
end
section
open Go.RowKit
theorem zNM {rb mb mo cap:Nat} {L:List Mk} {at0:Nat} {w:World} (h:Br w rb mb mo cap L at0) {b:Int} (n:Nat) (hbi:b=n) (hn:n+1<L.length):
  Calls Tryz.prog 221 #[.pointer (some ⟨rb,0,none⟩),.int .i64 b] w (zMm (zC9 L at0 n) w):=by
 subst hbi
 have hL:=h.m.len
 have hrb:=h.lt
 go_enter Tryz.func221,Tryz.ntmps221
 go_wp2_with fail
 go_loopw [6,7] (fun v i wr=> ∃(k:Nat) (s:List Nat),n+2≤k∧k≤L.length∧i= .int .i64 k∧wr.ownsRow (w.heap.size+1) 5 1 v s.length (u8s s)∧s.length≤k∧(∀b∈s,b<256)∧
   Hid (zC9 L at0 n=zCj L at0 n (L.length - k) k s)∧zFq wr w.heap.size Th.zero∧Below w.heap.size w wr) (fun _ i _=>L.length - (intOf i).toNat)
 case atStart=>exact⟨n+2,[],by omega,by omega,by go_num,zPv _ _ _ _,by simp,by simp,rfl,zPs w _,(by repeat (first|exact zPg _ _|assumption|refine zP8 ?_|refine zP6 ?_ (by first|(simp;done)|(simp;omega)|omega) _|refine zP7 ?_ (by first|(simp;done)|(simp;omega)|omega) _))⟩
 case round=>
  obtain⟨k,s,hk0,hk,rfl,hown,hsl,hs256,HS,hz,hbe⟩:=hrel
  have hr:=h.below hbe
  have c0:=hr.c0
  have hrb':=hr.lt
  have HZ:=zPf hz
  by_cases hlt:k<L.length
  ·have hm1:=hr.m.b k hlt
   have hu:=hr.m.u k hlt
   have hmb:=hr.m.lt
   have hno:(signAt L k 58&&signAt L (k+1) 93)=false∨(signAt L k 58=true∧signAt L (k+1) 93=true):=by cases signAt L k 58<;>cases signAt L (k+1) 93<;>simp
   rcases hno with hno|⟨e1,e2⟩
   ·have HON:=zPf (zMI (at0:=at0) (b0:=n) (n:=L.length - (k+1)) (s:=s) hno)
    have hcase:(signAt L k 58=false)∨(signAt L k 58=true∧signAt L (k+1) 93=false):=by cases h1:signAt L k 58<;>simp_all
    clear hno
    have hsz:=hz.lt
    clear hz
    rcases hcase with e1|⟨e1,e2⟩
    ·go_wp2_with fail
     refine(zAK hr k 58 (by omega) rfl).mono ?_;rintro e w1 ⟨rfl,rfl⟩
     go_wp2_with (at_builtin;refine zAt zMs rfl _ _ rfl (w.heap.size+1) rfl (hown.alloc _) rfl (Src.new wr [.int .u8 ((zAH L k).b:Nat)] _ _ _) rfl (by simp[Value.oneCell']) (by unfold maxLen;omega) (by omega) (by simp;omega) ?_)
     intro v1 w1 hown1 hgr _
     have hb1:Below (w.heap.size+1) wr w1:=Below.grown (zP6 (zPg _ _) (by omega) _) hgr (by simp;omega) (fun k hk=>(hown.lt k hk).1)
     have hz1:zFq w1 w.heap.size Th.zero:=(hb1.block _ (by omega)).trans HZ.out
     have hown2:w1.ownsRow (w.heap.size+1) 5 1 v1 (s++[(zAH L k).b]).length (u8s (s++[(zAH L k).b])):=by simpa [u8s]using hown1
     have hr256: ∀b∈s++[(zAH L k).b],b<256:=by
      intro b hb
      rcases zQA.1 hb with hb|hb
      ·exact hs256 b hb
      ·simp at hb;omega
     have HF:=zPf (show n+2≤k+1∧k+1≤L.length∧w1.ownsRow (w.heap.size+1) 5 1 v1 (s++[(zAH L k).b]).length (u8s (s++[(zAH L k).b]))∧(s++[(zAH L k).b]).length≤k+1∧(∀b∈s++[(zAH L k).b],b<256)∧
      Hid (zC9 L at0 n=zCj L at0 n (L.length - (k+1)) (k+1) (s++[(zAH L k).b]))∧zFq w1 w.heap.size Th.zero∧Below w.heap.size w w1 from
      ⟨by omega,by omega,hown2,by simp;omega,hr256,HS.out.trans ((congrArg (fun m=>zCj L at0 n m k s) (show L.length - k=L.length - (k+1)+1 by omega)).trans HON.out),hz1,hbe.trans (hb1.mono (by omega))⟩)
     clear hown hown1 hown2 hgr hb1 hz1 hr256 hs256 c0 hm1 hr HS HON HZ hbe
     go_wp2_with fail
     obtain⟨f1,f2,f3,f4,f5,f6,f7,f8⟩:=HF.out
     go_roundw
     case rel=>exact⟨k+1,_,f1,f2,by go_num,f3,f4,f5,f6,f7,f8⟩
     case measure=>simp[intOf];omega
    ·go_wp2_with fail
     refine(zAK hr k 58 (by omega) rfl).mono ?_;rintro e w1 ⟨rfl,rfl⟩
     go_wp2_with fail
     refine(zAK hr (k+1) 93 (by omega) rfl).mono ?_;rintro e w1 ⟨rfl,rfl⟩
     go_wp2_with (at_builtin;refine zAt zMs rfl _ _ rfl (w.heap.size+1) rfl (hown.alloc _) rfl (Src.new wr [.int .u8 ((zAH L k).b:Nat)] _ _ _) rfl (by simp[Value.oneCell']) (by unfold maxLen;omega) (by omega) (by simp;omega) ?_)
     intro v1 w1 hown1 hgr _
     have hb1:Below (w.heap.size+1) wr w1:=Below.grown (zP6 (zPg _ _) (by omega) _) hgr (by simp;omega) (fun k hk=>(hown.lt k hk).1)
     have hz1:zFq w1 w.heap.size Th.zero:=(hb1.block _ (by omega)).trans HZ.out
     have hown2:w1.ownsRow (w.heap.size+1) 5 1 v1 (s++[(zAH L k).b]).length (u8s (s++[(zAH L k).b])):=by simpa [u8s]using hown1
     have hr256: ∀b∈s++[(zAH L k).b],b<256:=by
      intro b hb
      rcases zQA.1 hb with hb|hb
      ·exact hs256 b hb
      ·simp at hb;omega
     have HF:=zPf (show n+2≤k+1∧k+1≤L.length∧w1.ownsRow (w.heap.size+1) 5 1 v1 (s++[(zAH L k).b]).length (u8s (s++[(zAH L k).b]))∧(s++[(zAH L k).b]).length≤k+1∧(∀b∈s++[(zAH L k).b],b<256)∧
      Hid (zC9 L at0 n=zCj L at0 n (L.length - (k+1)) (k+1) (s++[(zAH L k).b]))∧zFq w1 w.heap.size Th.zero∧Below w.heap.size w w1 from
      ⟨by omega,by omega,hown2,by simp;omega,hr256,HS.out.trans ((congrArg (fun m=>zCj L at0 n m k s) (show L.length - k=L.length - (k+1)+1 by omega)).trans HON.out),hz1,hbe.trans (hb1.mono (by omega))⟩)
     clear hown hown1 hown2 hgr hb1 hz1 hr256 hs256 c0 hm1 hr HS HON HZ hbe
     go_wp2_with fail
     obtain⟨f1,f2,f3,f4,f5,f6,f7,f8⟩:=HF.out
     go_roundw
     case rel=>exact⟨k+1,_,f1,f2,by go_num,f3,f4,f5,f6,f7,f8⟩
     case measure=>simp[intOf];omega
   ·have HD:=zPf (zIs (at0:=at0) (b0:=n) (n:=L.length - (k+1)) (s:=s) e1 e2)
    have hsz:=hz.lt
    clear hz
    have hconv:=zKW hown
    have hbs:=zDw s hs256
    generalize hstr:strOfNums (s.map fun b:Nat=>(b:Int))=str at hconv hbs
    clear hstr hown hs256 hm1
    go_wp2_with fail
    refine(zAK hr k 58 (by omega) rfl).mono ?_;rintro e w1 ⟨rfl,rfl⟩
    go_wp2_with fail
    refine(zAK hr (k+1) 93 (by omega) rfl).mono ?_;rintro e w1 ⟨rfl,rfl⟩
    go_wp2_with fail
    have hnm:=zMH str wr
    rw[hbs]at hnm
    have hlen:L.length - k=L.length - (k+1)+1:=by omega
    cases e3:zAn s with
    |none=>
     have HE:Hid (zC9 L at0 n=(Th.zero,some (31,n))):=by
      rw[hlen]at HS
      refine HS.out.trans (HD.out.trans ?_)
      rw[e3]
     rw[e3]at hnm
     simp only[Option.getD_none,Option.isSome_none]at hnm
     clear HS HD e3 hlen hbs
     refine hnm.mono ?_;rintro e w1 ⟨rfl,hb1⟩
     have hs1:w.heap.size<w1.heap.size:=zPi hsz hb1.size
     have hz1:zJ2 w1 w.heap.size:=(HZ.out.below hb1).is
     have hbe1:=hbe.trans (hb1.mono (by omega))
     obtain⟨z0,z1,z2,z3,z4,z5,z6⟩:=(HZ.out.below hb1).cells
     have f0:=zAE (HZ.out.below hb1)
     clear hb1 hbe
     go_wp2_with fail
     rw[zAL]
     rw[HE.out]
     exact zAv Tryz.results221 rfl rfl rfl hz1 (((zPg _ _).alloc (by simp[zAM];omega) _).alloc (by simp[zAM];omega) _) rfl (zDB (e:=31) (by simp[zAM]) (by simp[zAM];omega)) hbe1 (zPh _)
    |some c=>
     have HE:Hid (zC9 L at0 n=(⟨c,0,false,k+2⟩,none)):=by
      rw[hlen]at HS
      refine HS.out.trans (HD.out.trans ?_)
      rw[e3]
     rw[e3]at hnm
     simp only[Option.getD_some,Option.isSome_some]at hnm
     clear HS HD e3 hlen hbs
     refine hnm.mono ?_;rintro e w1 ⟨rfl,hb1⟩
     have hs1:w.heap.size<w1.heap.size:=zPi hsz hb1.size
     have hz1:zJ2 w1 w.heap.size:=(HZ.out.below hb1).is
     have hbe1:=hbe.trans (hb1.mono (by omega))
     obtain⟨z0,z1,z2,z3,z4,z5,z6⟩:=(HZ.out.below hb1).cells
     have f0:=zAE (HZ.out.below hb1)
     clear hb1 hbe
     go_wp2_with fail
     rw[zAL]
     rw[HE.out]
     exact zAv Tryz.results221 rfl rfl rfl hz1 ((zPg _ _).alloc (by simp[zAM];omega) _) rfl rfl hbe1 (zPh _)
  ·have hsz:=hz.lt
   clear hz
   have HE:Hid (zC9 L at0 n=(Th.zero,some (32,at0))):=by
    refine HS.out.trans ?_
    rw[show L.length - k=0 by omega]
    rfl
   clear HS
   go_wp2_with fail
   refine(zEu hr).mono ?_;rintro e w1 ⟨v,rfl,hf,hb1⟩
   have hs1:w.heap.size<w1.heap.size:=zPi hsz hb1.size
   have hz1:zJ2 w1 w.heap.size:=(HZ.out.below hb1).is
   have hbe1:=hbe.trans (hb1.mono (by omega))
   obtain⟨z0,z1,z2,z3,z4,z5,z6⟩:=(HZ.out.below hb1).cells
   have f0:=zAE (HZ.out.below hb1)
   have HF:=zPf hf
   clear hbe hf hb1
   go_wp2_with fail
   rw[zAL]
   rw[HE.out]
   exact zAv Tryz.results221 rfl rfl rfl hz1 (zPg _ _) rfl ((HF.out.set hsz _ _ _ _ _ _ _).mono (Nat.le_of_lt hsz)) hbe1 (zPh _)
end
section
open Go.RowKit
theorem zIF (a b:Nat):((a:Int)==(b:Int))=(a==b):=by
 rw[Bool.eq_iff_iff];simp;omega
theorem zFo {rb mb mo cap:Nat} {L:List Mk} {at0:Nat} {w:World} (h:Br w rb mb mo cap L at0) {b c:Int} (n k:Nat) (hbi:b=n) (hck:c=k) (hn:n+1<L.length):
  Calls Tryz.prog 222 #[.pointer (some ⟨rb,0,none⟩),.int .i64 b,.int .u8 c] w (zMm (zAf L at0 n k) w):=by
 subst hbi
 subst hck
 have hL:=h.m.len
 have hrb:=h.lt
 have h1:=h.below ((zPg _ _).alloc (zPh _) (.cells #[.int .u64 0,.int .u64 0,.int .u64 0,.int .u64 0,.int .u8 0,.bool false,.int .i64 0] 253))
 have hz:zFq (w.alloc (.cells #[.int .u64 0,.int .u64 0,.int .u64 0,.int .u64 0,.int .u8 0,.bool false,.int .i64 0] 253)) w.heap.size Th.zero:=zPs w _
 have hb0:Below w.heap.size w (w.alloc (.cells #[.int .u64 0,.int .u64 0,.int .u64 0,.int .u64 0,.int .u8 0,.bool false,.int .i64 0] 253)):=(by repeat (first|exact zPg _ _|assumption|refine zP8 ?_|refine zP6 ?_ (by first|(simp;done)|(simp;omega)|omega) _|refine zP7 ?_ (by first|(simp;done)|(simp;omega)|omega) _))
 have hs0:w.heap.size<(w.alloc (.cells #[.int .u64 0,.int .u64 0,.int .u64 0,.int .u64 0,.int .u8 0,.bool false,.int .i64 0] 253)).heap.size:=by simp
 go_enter Tryz.func222,Tryz.ntmps222
 go_wp2_with fail
 revert h1 hz hb0 hs0
 generalize w.alloc (.cells #[.int .u64 0,.int .u64 0,.int .u64 0,.int .u64 0,.int .u8 0,.bool false,.int .i64 0] 253)=wr
 intro h1 hz hb0 hs0
 have c0:=h1.c0
 have hrb':=h1.lt
 have his:=hz.is
 obtain⟨z0,z1,z2,z3,z4,z5,z6⟩:=hz.cells
 have f0:=zAE hz
 have HZ:=zPf hz
 clear hz
 have i0: ∀w,(Instr.index 297 (.agg #[.int .u8 (k:Nat),.int .u8 93]) (.int .i64 0)).run Tryz.prog w= .ok (.int .u8 (k:Nat)) w:=fun _=>by kernel_rfl
 have i1: ∀w,(Instr.index 297 (.agg #[.int .u8 (k:Nat),.int .u8 93]) (.int .i64 1)).run Tryz.prog w= .ok (.int .u8 93) w:=fun _=>by kernel_rfl
 have hle:=hb0.size
 refine wp_loop_rounds 3 ?_
 by_cases g1:L.length≤n+3
 ·have HE:Hid (zAf L at0 n k=(Th.zero,some (32,at0))):=by simp[Hid,zAf,g1]
  rw[rounds_succ]
  go_wp2_with fail
  refine(zEu h1).mono ?_;rintro e w1 ⟨v,rfl,hf,hb1⟩
  have hf1:=hf.mono hb0.size
  have hbe1:=hb0.trans (hb1.mono hb0.size)
  have hz1:=HZ.out.below hb1
  have his1:=hz1.is
  obtain⟨z0,z1,z2,z3,z4,z5,z6⟩:=hz1.cells
  have f0:=zAE hz1
  have HF:=zPf hf
  clear hf hf1 hb1 hz1
  go_wp2_with fail
  rw[zAL]
  rw[HE.out]
  exact zAv Tryz.results222 rfl rfl rfl his1 (zPg _ _) rfl ((HF.out.set hs0 _ _ _ _ _ _ _).mono hb0.size) hbe1 (zPh _)
 ·cases e1:signAt L (n+3) k with
  |false=>
   have HE:Hid (zAf L at0 n k=(Th.zero,some (31,n))):=by simp[Hid,zAf,g1,e1]
   rw[rounds_succ]
   go_wp2_with fail
   refine(zAK h1 (n+3) k (by omega) rfl).mono ?_;rintro e w1 ⟨rfl,rfl⟩
   go_wp2_with fail
   rw[zAL]
   rw[HE.out]
   exact zAv Tryz.results222 rfl rfl rfl his ((zPg _ _).alloc (by simp[zAM];omega) _) rfl (zDB (e:=31) (by simp[zAM]) (by simp[zAM];omega)) hb0 (zPh _)
  |true=>
   by_cases g2:L.length≤n+4
   ·have HE:Hid (zAf L at0 n k=(Th.zero,some (32,at0))):=by simp[Hid,zAf,g1,e1,g2]
    rw[rounds_succ]
    go_wp2_with fail
    refine(zAK h1 (n+3) k (by omega) rfl).mono ?_;rintro e w1 ⟨rfl,rfl⟩
    go_wp2_with fail
    rw[rounds_succ]
    go_wp2_with fail
    refine(zEu h1).mono ?_;rintro e w1 ⟨v,rfl,hf,hb1⟩
    have hf1:=hf.mono hb0.size
    have hbe1:=hb0.trans (hb1.mono hb0.size)
    have hz1:=HZ.out.below hb1
    have his1:=hz1.is
    obtain⟨z0,z1,z2,z3,z4,z5,z6⟩:=hz1.cells
    have f0:=zAE hz1
    have HF:=zPf hf
    clear hf hf1 hb1 hz1
    go_wp2_with fail
    rw[zAL]
    rw[HE.out]
    exact zAv Tryz.results222 rfl rfl rfl his1 (zPg _ _) rfl ((HF.out.set hs0 _ _ _ _ _ _ _).mono hb0.size) hbe1 (zPh _)
   ·cases e2:signAt L (n+4) 93 with
    |false=>
     have HE:Hid (zAf L at0 n k=(Th.zero,some (31,n))):=by simp[Hid,zAf,g1,e1,g2,e2]
     rw[rounds_succ]
     go_wp2_with fail
     refine(zAK h1 (n+3) k (by omega) rfl).mono ?_;rintro e w1 ⟨rfl,rfl⟩
     go_wp2_with fail
     rw[rounds_succ]
     go_wp2_with fail
     refine(zAK h1 (n+4) 93 (by omega) rfl).mono ?_;rintro e w1 ⟨rfl,rfl⟩
     go_wp2_with fail
     rw[zAL]
     rw[HE.out]
     exact zAv Tryz.results222 rfl rfl rfl his ((zPg _ _).alloc (by simp[zAM];omega) _) rfl (zDB (e:=31) (by simp[zAM]) (by simp[zAM];omega)) hb0 (zPh _)
    |true=>
     have HE:Hid (zAf L at0 n k=(⟨Cls.of [(zAH L (n+2)).b],(zAH L (n+2)).b,k==46,n+5⟩,none)):=by simp[Hid,zAf,g1,e1,g2,e2]
     have hm2:=h1.m.b (n+2) (by omega)
     have hu2:=h1.m.u (n+2) (by omega)
     have hmb:=h1.m.lt
     rw[rounds_succ]
     go_wp2_with fail
     refine(zAK h1 (n+3) k (by omega) rfl).mono ?_;rintro e w1 ⟨rfl,rfl⟩
     go_wp2_with fail
     rw[rounds_succ]
     go_wp2_with fail
     refine(zAK h1 (n+4) 93 (by omega) rfl).mono ?_;rintro e w1 ⟨rfl,rfl⟩
     go_wp2_with fail
     rw[rounds_succ]
     go_wp2_with fail
     refine(zEw [(zAH L (n+2)).b] #[.int .u8 (zAH L (n+2)).b] rfl (by simpa using hu2) (by simp) _).mono ?_;rintro e w1 ⟨rfl,hb1⟩
     have hb2:Below wr.heap.size wr w1:=Below.trans (by repeat (first|exact zPg _ _|assumption|refine zP8 ?_|refine zP6 ?_ (by first|(simp;done)|(simp;omega)|omega) _|refine zP7 ?_ (by first|(simp;done)|(simp;omega)|omega) _)) (hb1.mono (by simp))
     have hbe1:=hb0.trans (hb2.mono hb0.size)
     have hz1:=HZ.out.below hb2
     have his1:=hz1.is
     obtain⟨z0,z1,z2,z3,z4,z5,z6⟩:=hz1.cells
     have f0:=zAE hz1
     clear hb1 hb2 hz1
     go_wp2_with fail
     rw[zAL]
     rw[HE.out]
     exact zAv Tryz.results222 rfl rfl rfl his1 (zPg _ _) (by rw[show((k:Int)==46)=(k==46)from zIF k 46];rfl) rfl hbe1 (zPh _)
theorem zEg {rb mb mo cap:Nat} {L:List Mk} {at0:Nat} {w:World} (h:Br w rb mb mo cap L at0) {b:Int} (n:Nat) (hbi:b=n) (hn:n≤65536):
  Calls Tryz.prog 208 #[.pointer (some ⟨rb,0,none⟩),.int .i64 b] w (zMm (zAT L at0 n) w):=by
 subst hbi
 have hL:=h.m.len
 have hrb:=h.lt
 have h1:=h.below ((zPg _ _).alloc (zPh _) (.cells #[.int .u64 0,.int .u64 0,.int .u64 0,.int .u64 0,.int .u8 0,.bool false,.int .i64 0] 253))
 have hz:zFq (w.alloc (.cells #[.int .u64 0,.int .u64 0,.int .u64 0,.int .u64 0,.int .u8 0,.bool false,.int .i64 0] 253)) w.heap.size Th.zero:=zPs w _
 have hb0:Below w.heap.size w (w.alloc (.cells #[.int .u64 0,.int .u64 0,.int .u64 0,.int .u64 0,.int .u8 0,.bool false,.int .i64 0] 253)):=(by repeat (first|exact zPg _ _|assumption|refine zP8 ?_|refine zP6 ?_ (by first|(simp;done)|(simp;omega)|omega) _|refine zP7 ?_ (by first|(simp;done)|(simp;omega)|omega) _))
 have hs0:w.heap.size<(w.alloc (.cells #[.int .u64 0,.int .u64 0,.int .u64 0,.int .u64 0,.int .u8 0,.bool false,.int .i64 0] 253)).heap.size:=by simp
 go_enter Tryz.func208,Tryz.ntmps208
 go_upto_region 1 with fail
 revert h1 hz hb0 hs0
 generalize w.alloc (.cells #[.int .u64 0,.int .u64 0,.int .u64 0,.int .u64 0,.int .u8 0,.bool false,.int .i64 0] 253)=wr
 intro h1 hz hb0 hs0
 have c0:=h1.c0
 have hrb':=h1.lt
 have his:=hz.is
 obtain⟨z0,z1,z2,z3,z4,z5,z6⟩:=hz.cells
 have f0:=zAE hz
 have HZ:=zPf hz
 clear hz
 have hle:=hb0.size
 by_cases g1:L.length≤n
 ·have HE:Hid (zAT L at0 n=(Th.zero,some (32,at0))):=by simp[Hid,zAT,g1]
  go_wp2_with fail
  refine(zEu h1).mono ?_;rintro e w1 ⟨v,rfl,hf,hb1⟩
  have hbe1:=hb0.trans (hb1.mono hle)
  have hz1:=HZ.out.below hb1
  have his1:=hz1.is
  obtain⟨z0,z1,z2,z3,z4,z5,z6⟩:=hz1.cells
  have f0:=zAE hz1
  have HF:=zPf hf
  clear hf hb1 hz1
  go_wp2_with fail
  rw[zAL]
  rw[HE.out]
  exact zAv Tryz.results208 rfl rfl rfl his1 (zPg _ _) rfl ((HF.out.set hs0 _ _ _ _ _ _ _).mono hle) hbe1 (zPh _)
 ·have hm:=h1.m.b n (by omega)
  have hu:=h1.m.u n (by omega)
  have hmb:=h1.m.lt
  cases e1:signAt L n 91 with
  |false=>
   have HE:Hid (zAT L at0 n=(⟨Cls.of [(zAH L n).b],(zAH L n).b,true,n+1⟩,none)):=by simp[Hid,zAT,g1,e1]
   go_wp2_with fail
   refine(zAK h1 n 91 rfl rfl).mono ?_;rintro e w1 ⟨rfl,rfl⟩
   go_wp2_with fail
   refine(zEw [(zAH L n).b] #[.int .u8 (zAH L n).b] rfl (by simpa using hu) (by simp) _).mono ?_;rintro e w1 ⟨rfl,hb1⟩
   have hb2:Below wr.heap.size wr w1:=Below.trans (by repeat (first|exact zPg _ _|assumption|refine zP8 ?_|refine zP6 ?_ (by first|(simp;done)|(simp;omega)|omega) _|refine zP7 ?_ (by first|(simp;done)|(simp;omega)|omega) _)) (hb1.mono (by simp))
   have hbe1:=hb0.trans (hb2.mono hle)
   have hz1:=HZ.out.below hb2
   have his1:=hz1.is
   obtain⟨z0,z1,z2,z3,z4,z5,z6⟩:=hz1.cells
   have f0:=zAE hz1
   clear hb1 hb2 hz1
   go_wp2_with fail
   rw[zAL]
   rw[HE.out]
   exact zAv Tryz.results208 rfl rfl rfl his1 (zPg _ _) rfl rfl hbe1 (zPh _)
  |true=>
   by_cases g2:n+1<L.length
   ·have hm1:=h1.m.b (n+1) g2
    have hp1:=h1.m.p (n+1) g2
    cases e2:(zAH L (n+1)).p with
    |true=>
     have HE:Hid (zAT L at0 n=(⟨Cls.of [(zAH L n).b],(zAH L n).b,true,n+1⟩,none)):=by simp[Hid,zAT,g1,e1,e2]
     rw[e2]at hp1
     go_wp2_with fail
     refine(zAK h1 n 91 rfl rfl).mono ?_;rintro e w1 ⟨rfl,rfl⟩
     go_wp2_with fail
     refine(zEw [(zAH L n).b] #[.int .u8 (zAH L n).b] rfl (by simpa using hu) (by simp) _).mono ?_;rintro e w1 ⟨rfl,hb1⟩
     have hb2:Below wr.heap.size wr w1:=Below.trans (by repeat (first|exact zPg _ _|assumption|refine zP8 ?_|refine zP6 ?_ (by first|(simp;done)|(simp;omega)|omega) _|refine zP7 ?_ (by first|(simp;done)|(simp;omega)|omega) _)) (hb1.mono (by simp))
     have hbe1:=hb0.trans (hb2.mono hle)
     have hz1:=HZ.out.below hb2
     have his1:=hz1.is
     obtain⟨z0,z1,z2,z3,z4,z5,z6⟩:=hz1.cells
     have f0:=zAE hz1
     clear hb1 hb2 hz1
     go_wp2_with fail
     rw[zAL]
     rw[HE.out]
     exact zAv Tryz.results208 rfl rfl rfl his1 (zPg _ _) rfl rfl hbe1 (zPh _)
    |false=>
     rw[e2]at hp1
     by_cases q1:(zAH L (n+1)).b=58
     ·have HE:Hid (zAT L at0 n=zC9 L at0 n):=by simp[Hid,zAT,g1,g2,e1,e2,q1]
      have t1:(((zAH L (n+1)).b:Int)==58)=true:=by rw[q1];rfl
      clear q1
      go_wp2_with fail
      refine(zAK h1 n 91 rfl rfl).mono ?_;rintro e w1 ⟨rfl,rfl⟩
      go_wp2_with fail
      refine(zNM h1 n rfl g2).mono ?_;rintro e w1 ⟨v,rfl,hf,hb1⟩
      have hbe1:=hb0.trans (hb1.mono hle)
      have hz1:=HZ.out.below hb1
      have his1:=hz1.is
      obtain⟨z0,z1,z2,z3,z4,z5,z6⟩:=hz1.cells
      have f0:=zAE hz1
      have HF:=zPf hf
      clear hf hb1 hz1
      go_wp2_with fail
      rw[zAL]
      rw[HE.out]
      exact zAv Tryz.results208 rfl rfl rfl his1 (zPg _ _) rfl ((HF.out.set hs0 _ _ _ _ _ _ _).mono hle) hbe1 (zPh _)
     ·have t1:(((zAH L (n+1)).b:Int)==58)=false:=(show(((zAH L (n+1)).b:Int)==58)=((zAH L (n+1)).b==58)from zIF _ 58).trans (by simpa using q1)
      by_cases q2:(zAH L (n+1)).b=61
      ·have HE:Hid (zAT L at0 n=zAf L at0 n (zAH L (n+1)).b):=by simp[Hid,zAT,g1,g2,e1,e2,q2]
       have t2:(((zAH L (n+1)).b:Int)==61)=true:=by rw[q2];rfl
       clear q1 q2
       go_wp2_with fail
       refine(zAK h1 n 91 rfl rfl).mono ?_;rintro e w1 ⟨rfl,rfl⟩
       go_wp2_with fail
       refine(zFo h1 n _ rfl rfl g2).mono ?_;rintro e w1 ⟨v,rfl,hf,hb1⟩
       have hbe1:=hb0.trans (hb1.mono hle)
       have hz1:=HZ.out.below hb1
       have his1:=hz1.is
       obtain⟨z0,z1,z2,z3,z4,z5,z6⟩:=hz1.cells
       have f0:=zAE hz1
       have HF:=zPf hf
       clear hf hb1 hz1
       go_wp2_with fail
       rw[zAL]
       rw[HE.out]
       exact zAv Tryz.results208 rfl rfl rfl his1 (zPg _ _) rfl ((HF.out.set hs0 _ _ _ _ _ _ _).mono hle) hbe1 (zPh _)
      ·have t2:(((zAH L (n+1)).b:Int)==61)=false:=(show(((zAH L (n+1)).b:Int)==61)=((zAH L (n+1)).b==61)from zIF _ 61).trans (by simpa using q2)
       by_cases q3:(zAH L (n+1)).b=46
       ·have HE:Hid (zAT L at0 n=zAf L at0 n (zAH L (n+1)).b):=by simp[Hid,zAT,g1,g2,e1,e2,q3]
        have t3:(((zAH L (n+1)).b:Int)==46)=true:=by rw[q3];rfl
        clear q1 q2 q3
        go_wp2_with fail
        refine(zAK h1 n 91 rfl rfl).mono ?_;rintro e w1 ⟨rfl,rfl⟩
        go_wp2_with fail
        refine(zFo h1 n _ rfl rfl g2).mono ?_;rintro e w1 ⟨v,rfl,hf,hb1⟩
        have hbe1:=hb0.trans (hb1.mono hle)
        have hz1:=HZ.out.below hb1
        have his1:=hz1.is
        obtain⟨z0,z1,z2,z3,z4,z5,z6⟩:=hz1.cells
        have f0:=zAE hz1
        have HF:=zPf hf
        clear hf hb1 hz1
        go_wp2_with fail
        rw[zAL]
        rw[HE.out]
        exact zAv Tryz.results208 rfl rfl rfl his1 (zPg _ _) rfl ((HF.out.set hs0 _ _ _ _ _ _ _).mono hle) hbe1 (zPh _)
       ·have t3:(((zAH L (n+1)).b:Int)==46)=false:=(show(((zAH L (n+1)).b:Int)==46)=((zAH L (n+1)).b==46)from zIF _ 46).trans (by simpa using q3)
        have HE:Hid (zAT L at0 n=(⟨Cls.of [(zAH L n).b],(zAH L n).b,true,n+1⟩,none)):=by simp[Hid,zAT,g1,e1,e2,q1,q2,q3]
        clear q1 q2 q3
        go_wp2_with fail
        refine(zAK h1 n 91 rfl rfl).mono ?_;rintro e w1 ⟨rfl,rfl⟩
        go_wp2_with fail
        refine(zEw [(zAH L n).b] #[.int .u8 (zAH L n).b] rfl (by simpa using hu) (by simp) _).mono ?_;rintro e w1 ⟨rfl,hb1⟩
        have hb2:Below wr.heap.size wr w1:=Below.trans (by repeat (first|exact zPg _ _|assumption|refine zP8 ?_|refine zP6 ?_ (by first|(simp;done)|(simp;omega)|omega) _|refine zP7 ?_ (by first|(simp;done)|(simp;omega)|omega) _)) (hb1.mono (by simp))
        have hbe1:=hb0.trans (hb2.mono hle)
        have hz1:=HZ.out.below hb2
        have his1:=hz1.is
        obtain⟨z0,z1,z2,z3,z4,z5,z6⟩:=hz1.cells
        have f0:=zAE hz1
        clear hb1 hb2 hz1
        go_wp2_with fail
        rw[zAL]
        rw[HE.out]
        exact zAv Tryz.results208 rfl rfl rfl his1 (zPg _ _) rfl rfl hbe1 (zPh _)
   ·have HE:Hid (zAT L at0 n=(⟨Cls.of [(zAH L n).b],(zAH L n).b,true,n+1⟩,none)):=by simp[Hid,zAT,g1,e1,g2]
    go_wp2_with fail
    refine(zAK h1 n 91 rfl rfl).mono ?_;rintro e w1 ⟨rfl,rfl⟩
    go_wp2_with fail
    refine(zEw [(zAH L n).b] #[.int .u8 (zAH L n).b] rfl (by simpa using hu) (by simp) _).mono ?_;rintro e w1 ⟨rfl,hb1⟩
    have hb2:Below wr.heap.size wr w1:=Below.trans (by repeat (first|exact zPg _ _|assumption|refine zP8 ?_|refine zP6 ?_ (by first|(simp;done)|(simp;omega)|omega) _|refine zP7 ?_ (by first|(simp;done)|(simp;omega)|omega) _)) (hb1.mono (by simp))
    have hbe1:=hb0.trans (hb2.mono hle)
    have hz1:=HZ.out.below hb2
    have his1:=hz1.is
    obtain⟨z0,z1,z2,z3,z4,z5,z6⟩:=hz1.cells
    have f0:=zAE hz1
    clear hb1 hb2 hz1
    go_wp2_with fail
    rw[zAL]
    rw[HE.out]
    exact zAv Tryz.results208 rfl rfl rfl his1 (zPg _ _) rfl rfl hbe1 (zPh _)
end
section
open Go.RowKit
theorem Flt.drew {base:Nat} {w:World} {v:Value} {f:Option (Nat × Nat)} (h:Flt base w v f):Flt base w.drew v f:=h.below (zPg _ _).drew
theorem zF7 {rb mb mo cap:Nat} {L:List Mk} {at0:Nat} {w:World} (h:Br w rb mb mo cap L at0) {b:Int} (n:Nat) (hbi:b=n) (hn:n≤65530) (first:Bool):
  Calls Tryz.prog 182 #[.pointer (some ⟨rb,0,none⟩),.int .i64 b,.bool first] w (zMm (zAb L at0 n first) w):=by
 subst hbi
 have hL:=h.m.len
 have h0:=h.below ((zPg _ _).alloc (zPh _) (.cells #[.int .u64 0,.int .u64 0,.int .u64 0,.int .u64 0,.int .u8 0,.bool false,.int .i64 0] 253))
 have hz0:zFq (w.alloc (.cells #[.int .u64 0,.int .u64 0,.int .u64 0,.int .u64 0,.int .u8 0,.bool false,.int .i64 0] 253)) w.heap.size Th.zero:=zPs w _
 go_enter Tryz.func182,Tryz.ntmps182
 go_wp2_with fail
 refine(zEg h0 n rfl (by omega)).mono ?_;rintro e w1 ⟨v,rfl,hf,hb1⟩
 generalize hth:zAT L at0 n=r at*
 obtain⟨a,fa⟩:=r
 have HT:=zPf hth
 clear hth
 simp only at hf
 have hbw:Below w.heap.size w w1:=Below.trans (by repeat (first|exact zPg _ _|assumption|refine zP8 ?_|refine zP6 ?_ (by first|(simp;done)|(simp;omega)|omega) _|refine zP7 ?_ (by first|(simp;done)|(simp;omega)|omega) _)) (hb1.mono (by simp))
 have hz1:=hz0.below hb1
 have h1:=h0.below hb1
 have hs1:w.heap.size<w1.heap.size:=by have:=hb1.size;simp at this;omega
 have hfw:Flt (w.heap.size+1) w1 v fa:=by simpa using hf
 clear hf hz0 h0 hb1
 go_upto_region 2 with fail
 have hx:zFq (w1.alloc (.cells #[.int .u64 a.set.w0.toNat,.int .u64 a.set.w1.toNat,.int .u64 a.set.w2.toNat,.int .u64 a.set.w3.toNat,.int .u8 (a.b:Nat),.bool a.fin,.int .i64 (a.next:Nat)] 253)) w1.heap.size a:=zPs w1 _
 have hbx:Below w1.heap.size w1 (w1.alloc (.cells #[.int .u64 a.set.w0.toNat,.int .u64 a.set.w1.toNat,.int .u64 a.set.w2.toNat,.int .u64 a.set.w3.toNat,.int .u8 (a.b:Nat),.bool a.fin,.int .i64 (a.next:Nat)] 253)):=(zPg _ _).alloc (zPh _) _
 have hsx:w1.heap.size<(w1.alloc (.cells #[.int .u64 a.set.w0.toNat,.int .u64 a.set.w1.toNat,.int .u64 a.set.w2.toNat,.int .u64 a.set.w3.toNat,.int .u8 (a.b:Nat),.bool a.fin,.int .i64 (a.next:Nat)] 253)).heap.size:=by simp
 revert hx hbx hsx
 generalize w1.alloc (.cells #[.int .u64 a.set.w0.toNat,.int .u64 a.set.w1.toNat,.int .u64 a.set.w2.toNat,.int .u64 a.set.w3.toNat,.int .u8 (a.b:Nat),.bool a.fin,.int .i64 (a.next:Nat)] 253)=wx
 intro hx hbx hsx
 have hb0:Below w.heap.size w wx:=hbw.trans (hbx.mono (by omega))
 have h1:=h1.below hbx
 have hz1:=hz1.below hbx
 have his:=hz1.is
 have hfx:=hfw.below hbx
 have HX:=zPf hx
 have HZ:=zPf hz1
 obtain⟨z0,z1,z2,z3,z4,z5,z6⟩:=hz1.cells
 have f0:=zAE hz1
 obtain⟨x0,x1,x2,x3,x4,x5,x6⟩:=hx.cells
 have hle:=hb0.size
 have hlx:w.heap.size<wx.heap.size:=by omega
 have c0:=h1.c0
 have hrb:=h1.lt
 clear hbw hz1 hfw hbx hx
 generalize w1.heap.size=b8 at*
 cases fa with
 |some f=>
  have HE:Hid (zAb L at0 n first=(a,some f)):=by simp only[Hid,zAb,HT.out]
  obtain⟨fe,fat⟩:=f
  obtain⟨fb,rfl,hfge,hflt,hfc0,hfc1⟩:=hfx
  have hfl:Hid (Flt (w.heap.size+1) wx (.pointer (some ⟨fb,0,none⟩)) (some (fe,fat))):=⟨fb,rfl,hfge,hflt,hfc0,hfc1⟩
  clear hfc0 hfc1
  go_wp2_with fail
  rw[zAL]
  rw[HE.out]
  exact zAv Tryz.results182 rfl rfl rfl his (zPg _ _) rfl ((hfl.out.set (Nat.lt_succ_self _) _ _ _ _ _ _ _).mono (Nat.le_succ _)) hb0 (zPh _)
 |none=>
  have hv:v= .pointer none:=hfx
  subst hv
  clear hfx
  obtain⟨hn1,hn2,hab⟩:=zBd HT.out h1.m.u
  have hIT:Hid (zAb L at0 n first=if signAt L n 45&& !first&& !signAt L (n+1) 93 then
    if L.length≤n+1 then(a,some (32,at0))else(a,some (30,n))
   else if !signAt L a.next 45||decide (L.length≤a.next+1)||signAt L (a.next+1) 93 then(a,none)
   else if !a.fin then(a,some (30,n))
   else match zAT L at0 (a.next+1)with
    |(b,some f)=>(b,some f)
    |(b,none)=>if !b.fin||decide (b.b<a.b)then(b,some (30,n))else(⟨Cls.range a.b b.b,0,false,b.next⟩,none)):=by
   simp only[Hid,zAb,HT.out];rfl
  cases e1:signAt L n 45 with
  |false=>
   go_wp2_with fail
   refine(zAK h1 (n) 45 (rfl) rfl).mono ?_;rintro e ww ⟨rfl,rfl⟩
   cases e3:signAt L a.next 45 with
   |false=>
    have HE:Hid (zAb L at0 n first=(a,none)):=hIT.out.trans (by simp[e1,e3])
    go_wp2_with fail
    refine zAA (X:=none) 23 [([0,1,2],3),([4,5,6,7,8,9,10,11,12,13,14,15,16,17,18,19,20],21)] [22] (by kernel_rfl) (by kernel_rfl) rfl (fun _ _ _ _ _ h=>h) ?_
    simp only[zAI,zAC,zAF,zAD,zAB,List.getD_cons_zero,List.getD_cons_succ,List.drop_succ_cons,List.drop_nil]
    repeat (go_big_quiet_step (fail))
    refine wpQuiet_nil ?_
    go_wp2_with fail
    refine(zAK (h1.below (zPg _ _).drew) (a.next) 45 (rfl) rfl).mono ?_;rintro e ww ⟨rfl,rfl⟩
    go_wp2_with fail
    refine⟨zAJ.refl _,?_⟩
    repeat (go_big_quiet_step (fail))
    refine wpQuiet_nil ?_
    go_wp2_with fail
    refine⟨zAJ.refl _,?_⟩
    repeat (go_big_quiet_step (fail))
    refine wpQuiet_nil ?_
    go_wp2_with fail
    rw[zAL]
    rw[HE.out]
    exact zAv Tryz.results182 rfl rfl rfl his (zPg _ _).drew rfl rfl hb0 (zPh _)
   |true=>
    by_cases g2:L.length≤a.next+1
    ·
     have t2:decide ((L.length:Int)≤(a.next:Int)+1)=true:=by simp;omega
     have HE:Hid (zAb L at0 n first=(a,none)):=hIT.out.trans (by simp[e1,e3,g2])
     go_wp2_with fail
     refine zAA (X:=none) 23 [([0,1,2],3),([4,5,6,7,8,9,10,11,12,13,14,15,16,17,18,19,20],21)] [22] (by kernel_rfl) (by kernel_rfl) rfl (fun _ _ _ _ _ h=>h) ?_
     simp only[zAI,zAC,zAF,zAD,zAB,List.getD_cons_zero,List.getD_cons_succ,List.drop_succ_cons,List.drop_nil]
     repeat (go_big_quiet_step (fail))
     refine wpQuiet_nil ?_
     go_wp2_with fail
     refine(zAK (h1.below (zPg _ _).drew) (a.next) 45 (rfl) rfl).mono ?_;rintro e ww ⟨rfl,rfl⟩
     go_wp2_with fail
     refine⟨zAJ.refl _,?_⟩
     repeat (go_big_quiet_step (fail))
     refine wpQuiet_nil ?_
     go_wp2_with fail
     refine⟨zAJ.refl _,?_⟩
     repeat (go_big_quiet_step (fail))
     refine wpQuiet_nil ?_
     go_wp2_with fail
     rw[zAL]
     rw[HE.out]
     exact zAv Tryz.results182 rfl rfl rfl his (zPg _ _).drew rfl rfl hb0 (zPh _)
    ·have t2:decide ((L.length:Int)≤(a.next:Int)+1)=false:=by simp;omega
     cases e4:signAt L (a.next+1) 93 with
     |true=>
      have HE:Hid (zAb L at0 n first=(a,none)):=hIT.out.trans (by simp[e1,e3,g2,e4])
      go_wp2_with fail
      refine zAA (X:=none) 23 [([0,1,2],3),([4,5,6,7,8,9,10,11,12,13,14,15,16,17,18,19,20],21)] [22] (by kernel_rfl) (by kernel_rfl) rfl (fun _ _ _ _ _ h=>h) ?_
      simp only[zAI,zAC,zAF,zAD,zAB,List.getD_cons_zero,List.getD_cons_succ,List.drop_succ_cons,List.drop_nil]
      repeat (go_big_quiet_step (fail))
      refine wpQuiet_nil ?_
      go_wp2_with fail
      refine(zAK (h1.below (zPg _ _).drew) (a.next) 45 (rfl) rfl).mono ?_;rintro e ww ⟨rfl,rfl⟩
      go_wp2_with fail
      refine⟨zAJ.refl _,?_⟩
      repeat (go_big_quiet_step (fail))
      refine wpQuiet_nil ?_
      go_wp2_with fail
      refine(zAK (h1.below (zPg _ _).drew) (a.next+1) 93 (rfl) rfl).mono ?_;rintro e ww ⟨rfl,rfl⟩
      go_wp2_with fail
      refine⟨zAJ.refl _,?_⟩
      repeat (go_big_quiet_step (fail))
      refine wpQuiet_nil ?_
      go_wp2_with fail
      rw[zAL]
      rw[HE.out]
      exact zAv Tryz.results182 rfl rfl rfl his (zPg _ _).drew rfl rfl hb0 (zPh _)
     |false=>
      cases e5:a.fin with
      |false=>
       rw[e5]at x5
       have HE:Hid (zAb L at0 n first=(a,some (30,n))):=hIT.out.trans (by simp[e1,e3,g2,e4,e5])
       go_wp2_with fail
       refine zAA (X:=none) 23 [([0,1,2],3),([4,5,6,7,8,9,10,11,12,13,14,15,16,17,18,19,20],21)] [22] (by kernel_rfl) (by kernel_rfl) rfl (fun _ _ _ _ _ h=>h) ?_
       simp only[zAI,zAC,zAF,zAD,zAB,List.getD_cons_zero,List.getD_cons_succ,List.drop_succ_cons,List.drop_nil]
       repeat (go_big_quiet_step (fail))
       refine wpQuiet_nil ?_
       go_wp2_with fail
       refine(zAK (h1.below (zPg _ _).drew) (a.next) 45 (rfl) rfl).mono ?_;rintro e ww ⟨rfl,rfl⟩
       go_wp2_with fail
       refine⟨zAJ.refl _,?_⟩
       repeat (go_big_quiet_step (fail))
       refine wpQuiet_nil ?_
       go_wp2_with fail
       refine(zAK (h1.below (zPg _ _).drew) (a.next+1) 93 (rfl) rfl).mono ?_;rintro e ww ⟨rfl,rfl⟩
       go_wp2_with fail
       refine⟨zAJ.refl _,?_⟩
       repeat (go_big_quiet_step (fail))
       refine wpQuiet_nil ?_
       go_wp2_with fail
       rw[zAL]
       rw[HE.out]
       exact zAv Tryz.results182 rfl rfl rfl his ((zPg _ _).alloc (by simp[zAM];omega) _).drew (by simp only[thV,e5]) (zDB (e:=30) (by simp[zAM]) (by simp[zAM];omega)).drew hb0 (zPh _)
      |true=>
       rw[e5]at x5
       go_wp2_with fail
       refine zAA (X:=none) 23 [([0,1,2],3),([4,5,6,7,8,9,10,11,12,13,14,15,16,17,18,19,20],21)] [22] (by kernel_rfl) (by kernel_rfl) rfl (fun _ _ _ _ _ h=>h) ?_
       simp only[zAI,zAC,zAF,zAD,zAB,List.getD_cons_zero,List.getD_cons_succ,List.drop_succ_cons,List.drop_nil]
       repeat (go_big_quiet_step (fail))
       refine wpQuiet_nil ?_
       go_wp2_with fail
       refine(zAK (h1.below (zPg _ _).drew) (a.next) 45 (rfl) rfl).mono ?_;rintro e ww ⟨rfl,rfl⟩
       go_wp2_with fail
       refine⟨zAJ.refl _,?_⟩
       repeat (go_big_quiet_step (fail))
       refine wpQuiet_nil ?_
       go_wp2_with fail
       refine(zAK (h1.below (zPg _ _).drew) (a.next+1) 93 (rfl) rfl).mono ?_;rintro e ww ⟨rfl,rfl⟩
       go_wp2_with fail
       refine⟨zAJ.refl _,?_⟩
       repeat (go_big_quiet_step (fail))
       refine wpQuiet_nil ?_
       go_wp2_with fail
       refine(zEg (h1.below (zPg _ _).drew) (a.next+1) (by omega) (by omega)).mono ?_;rintro e w2 ⟨v,rfl,hf,hb1⟩
       generalize hth2:zAT L at0 (a.next+1)=r2 at*
       obtain⟨c,fc⟩:=r2
       have HT2:=zPf hth2
       clear hth2
       simp only at hf
       have hbd:Below wx.heap.size wx w2:=Below.trans (zPg _ _).drew hb1
       go_upto_region 13 with fail
       have hy:zFq (w2.alloc (.cells #[.int .u64 c.set.w0.toNat,.int .u64 c.set.w1.toNat,.int .u64 c.set.w2.toNat,.int .u64 c.set.w3.toNat,.int .u8 (c.b:Nat),.bool c.fin,.int .i64 (c.next:Nat)] 253)) w2.heap.size c:=zPs w2 _
       have hby:Below w2.heap.size w2 (w2.alloc (.cells #[.int .u64 c.set.w0.toNat,.int .u64 c.set.w1.toNat,.int .u64 c.set.w2.toNat,.int .u64 c.set.w3.toNat,.int .u8 (c.b:Nat),.bool c.fin,.int .i64 (c.next:Nat)] 253)):=(zPg _ _).alloc (zPh _) _
       have hsy:w2.heap.size<(w2.alloc (.cells #[.int .u64 c.set.w0.toNat,.int .u64 c.set.w1.toNat,.int .u64 c.set.w2.toNat,.int .u64 c.set.w3.toNat,.int .u8 (c.b:Nat),.bool c.fin,.int .i64 (c.next:Nat)] 253)).heap.size:=by simp
       revert hy hby hsy
       generalize w2.alloc (.cells #[.int .u64 c.set.w0.toNat,.int .u64 c.set.w1.toNat,.int .u64 c.set.w2.toNat,.int .u64 c.set.w3.toNat,.int .u8 (c.b:Nat),.bool c.fin,.int .i64 (c.next:Nat)] 253)=wy
       intro hy hby hsy
       have hbw2:Below wx.heap.size wx wy:=hbd.trans (hby.mono hbd.size)
       have hbe2:=hb0.trans (hbw2.mono hle)
       have hz2:=HZ.out.below hbw2
       have his2:=hz2.is
       clear z0 z1 z2 z3 z4 z5 z6 f0
       obtain⟨z0,z1,z2,z3,z4,z5,z6⟩:=hz2.cells
       have f0:=zAE hz2
       clear x0 x1 x2 x3 x4 x5 x6
       obtain⟨x0,x1,x2,x3,x4,x5,x6⟩:=(HX.out.below hbw2).cells
       obtain⟨y0,y1,y2,y3,y4,y5,y6⟩:=hy.cells
       have hfy:Flt wx.heap.size wy v fc:=(by exact hf:Flt wx.heap.size w2 v fc).below hby
       have hly:=hbw2.size
       have hlz:w.heap.size<wy.heap.size:=by omega
       have hlb:b8<wy.heap.size:=by omega
       have hlr:rb<wy.heap.size:=by omega
       clear hbd hby hz2 hf hb1 hy
       generalize w2.heap.size=b9 at*
       cases fc with
       |some f=>
        have HE:Hid (zAb L at0 n first=(c,some f)):=hIT.out.trans (by simp[e1,e3,g2,e4,e5])
        obtain⟨fe,fat⟩:=f
        obtain⟨fb,rfl,hfge,hflt,hfc0,hfc1⟩:=hfy
        have hfl:Hid (Flt wx.heap.size wy (.pointer (some ⟨fb,0,none⟩)) (some (fe,fat))):=⟨fb,rfl,hfge,hflt,hfc0,hfc1⟩
        clear hfc0 hfc1
        go_wp2_with fail
        rw[zAL]
        rw[HE.out]
        exact zAv Tryz.results182 rfl rfl rfl his2 (zPg _ _) rfl ((hfl.out.set hlx _ _ _ _ _ _ _).mono hle) hbe2 (zPh _)
       |none=>
        have hv:v= .pointer none:=hfy
        subst hv
        clear hfy
        obtain⟨hc1,hc2,hcb⟩:=zBd HT2.out h1.m.u
        cases e6:c.fin with
        |false=>
         rw[e6]at y5
         have HE:Hid (zAb L at0 n first=(c,some (30,n))):=hIT.out.trans (by simp[e1,e3,g2,e4,e5,e6])
         go_wp2_with fail
         rw[zAL]
         rw[HE.out]
         exact zAv Tryz.results182 rfl rfl rfl his2 ((zPg _ _).alloc (by simp[zAM];omega) _) (by simp only[thV,e6]) (zDB (e:=30) (by simp[zAM]) (by simp[zAM];omega)) hbe2 (zPh _)
        |true=>
         by_cases g3:c.b<a.b
         ·
          rw[e6]at y5
          have HE:Hid (zAb L at0 n first=(c,some (30,n))):=hIT.out.trans (by simp[e1,e3,g2,e4,e5,e6,g3])
          go_wp2_with fail
          rw[zAL]
          rw[HE.out]
          exact zAv Tryz.results182 rfl rfl rfl his2 ((zPg _ _).alloc (by simp[zAM];omega) _) (by simp only[thV,e6]) (zDB (e:=30) (by simp[zAM]) (by simp[zAM];omega)) hbe2 (zPh _)
         ·
          rw[e6]at y5
          have HE:Hid (zAb L at0 n first=(⟨Cls.range a.b c.b,0,false,c.next⟩,none)):=hIT.out.trans (by simp[e1,e3,g2,e4,e5,e6,g3])
          go_wp2_with fail
          refine zAA (X:=none) 8 [([0,1,2,3,5,6],4)] [7] (by kernel_rfl) (by kernel_rfl) rfl (fun _ _ _ _ _ h=>h) ?_
          simp only[zAI,zAC,zAF,zAD,zAB,List.getD_cons_zero,List.getD_cons_succ,List.drop_succ_cons,List.drop_zero]
          repeat (go_big_quiet_step (fail))
          refine wpQuiet_nil ?_
          go_wp2_with fail
          refine(zBO _ _ (by omega) (by omega) (by omega) (by omega) _).mono ?_;rintro e w3 ⟨rfl,hb3⟩
          have hkp:=zAJ.of_below (X:=none) hb3
          replace hb3:Below wy.heap.size wy w3:=Below.trans (zPg _ _).drew hb3
          have hbe3:=hbe2.trans (hb3.mono (by omega))
          have hz3:=HZ.out.below (hbw2.trans (hb3.mono hly))
          have his3:=hz3.is
          clear z0 z1 z2 z3 z4 z5 z6 f0
          obtain⟨z0,z1,z2,z3,z4,z5,z6⟩:=hz3.cells
          have f0:=zAE hz3
          clear hz3
          go_wp2_with fail
          refine⟨hkp,?_⟩
          clear hkp
          repeat (go_big_quiet_step (fail))
          refine wpQuiet_nil ?_
          go_wp2_with fail
          rw[zAL]
          rw[HE.out]
          exact zAv Tryz.results182 rfl rfl rfl his3 (zPg _ _) rfl rfl hbe3 (zPh _)
  |true=>
   cases first with
   |true=>
    go_wp2_with fail
    refine(zAK h1 (n) 45 (rfl) rfl).mono ?_;rintro e ww ⟨rfl,rfl⟩
    cases e3:signAt L a.next 45 with
    |false=>
     have HE:Hid (zAb L at0 n true=(a,none)):=hIT.out.trans (by simp[e1,e3])
     go_wp2_with fail
     refine zAA (X:=none) 23 [([0,1,2],3),([4,5,6,7,8,9,10,11,12,13,14,15,16,17,18,19,20],21)] [22] (by kernel_rfl) (by kernel_rfl) rfl (fun _ _ _ _ _ h=>h) ?_
     simp only[zAI,zAC,zAF,zAD,zAB,List.getD_cons_zero,List.getD_cons_succ,List.drop_succ_cons,List.drop_nil]
     repeat (go_big_quiet_step (fail))
     refine wpQuiet_nil ?_
     go_wp2_with fail
     refine(zAK (h1.below (zPg _ _).drew) (a.next) 45 (rfl) rfl).mono ?_;rintro e ww ⟨rfl,rfl⟩
     go_wp2_with fail
     refine⟨zAJ.refl _,?_⟩
     repeat (go_big_quiet_step (fail))
     refine wpQuiet_nil ?_
     go_wp2_with fail
     refine⟨zAJ.refl _,?_⟩
     repeat (go_big_quiet_step (fail))
     refine wpQuiet_nil ?_
     go_wp2_with fail
     rw[zAL]
     rw[HE.out]
     exact zAv Tryz.results182 rfl rfl rfl his (zPg _ _).drew rfl rfl hb0 (zPh _)
    |true=>
     by_cases g2:L.length≤a.next+1
     ·
      have t2:decide ((L.length:Int)≤(a.next:Int)+1)=true:=by simp;omega
      have HE:Hid (zAb L at0 n true=(a,none)):=hIT.out.trans (by simp[e1,e3,g2])
      go_wp2_with fail
      refine zAA (X:=none) 23 [([0,1,2],3),([4,5,6,7,8,9,10,11,12,13,14,15,16,17,18,19,20],21)] [22] (by kernel_rfl) (by kernel_rfl) rfl (fun _ _ _ _ _ h=>h) ?_
      simp only[zAI,zAC,zAF,zAD,zAB,List.getD_cons_zero,List.getD_cons_succ,List.drop_succ_cons,List.drop_nil]
      repeat (go_big_quiet_step (fail))
      refine wpQuiet_nil ?_
      go_wp2_with fail
      refine(zAK (h1.below (zPg _ _).drew) (a.next) 45 (rfl) rfl).mono ?_;rintro e ww ⟨rfl,rfl⟩
      go_wp2_with fail
      refine⟨zAJ.refl _,?_⟩
      repeat (go_big_quiet_step (fail))
      refine wpQuiet_nil ?_
      go_wp2_with fail
      refine⟨zAJ.refl _,?_⟩
      repeat (go_big_quiet_step (fail))
      refine wpQuiet_nil ?_
      go_wp2_with fail
      rw[zAL]
      rw[HE.out]
      exact zAv Tryz.results182 rfl rfl rfl his (zPg _ _).drew rfl rfl hb0 (zPh _)
     ·have t2:decide ((L.length:Int)≤(a.next:Int)+1)=false:=by simp;omega
      cases e4:signAt L (a.next+1) 93 with
      |true=>
       have HE:Hid (zAb L at0 n true=(a,none)):=hIT.out.trans (by simp[e1,e3,g2,e4])
       go_wp2_with fail
       refine zAA (X:=none) 23 [([0,1,2],3),([4,5,6,7,8,9,10,11,12,13,14,15,16,17,18,19,20],21)] [22] (by kernel_rfl) (by kernel_rfl) rfl (fun _ _ _ _ _ h=>h) ?_
       simp only[zAI,zAC,zAF,zAD,zAB,List.getD_cons_zero,List.getD_cons_succ,List.drop_succ_cons,List.drop_nil]
       repeat (go_big_quiet_step (fail))
       refine wpQuiet_nil ?_
       go_wp2_with fail
       refine(zAK (h1.below (zPg _ _).drew) (a.next) 45 (rfl) rfl).mono ?_;rintro e ww ⟨rfl,rfl⟩
       go_wp2_with fail
       refine⟨zAJ.refl _,?_⟩
       repeat (go_big_quiet_step (fail))
       refine wpQuiet_nil ?_
       go_wp2_with fail
       refine(zAK (h1.below (zPg _ _).drew) (a.next+1) 93 (rfl) rfl).mono ?_;rintro e ww ⟨rfl,rfl⟩
       go_wp2_with fail
       refine⟨zAJ.refl _,?_⟩
       repeat (go_big_quiet_step (fail))
       refine wpQuiet_nil ?_
       go_wp2_with fail
       rw[zAL]
       rw[HE.out]
       exact zAv Tryz.results182 rfl rfl rfl his (zPg _ _).drew rfl rfl hb0 (zPh _)
      |false=>
       cases e5:a.fin with
       |false=>
        rw[e5]at x5
        have HE:Hid (zAb L at0 n true=(a,some (30,n))):=hIT.out.trans (by simp[e1,e3,g2,e4,e5])
        go_wp2_with fail
        refine zAA (X:=none) 23 [([0,1,2],3),([4,5,6,7,8,9,10,11,12,13,14,15,16,17,18,19,20],21)] [22] (by kernel_rfl) (by kernel_rfl) rfl (fun _ _ _ _ _ h=>h) ?_
        simp only[zAI,zAC,zAF,zAD,zAB,List.getD_cons_zero,List.getD_cons_succ,List.drop_succ_cons,List.drop_nil]
        repeat (go_big_quiet_step (fail))
        refine wpQuiet_nil ?_
        go_wp2_with fail
        refine(zAK (h1.below (zPg _ _).drew) (a.next) 45 (rfl) rfl).mono ?_;rintro e ww ⟨rfl,rfl⟩
        go_wp2_with fail
        refine⟨zAJ.refl _,?_⟩
        repeat (go_big_quiet_step (fail))
        refine wpQuiet_nil ?_
        go_wp2_with fail
        refine(zAK (h1.below (zPg _ _).drew) (a.next+1) 93 (rfl) rfl).mono ?_;rintro e ww ⟨rfl,rfl⟩
        go_wp2_with fail
        refine⟨zAJ.refl _,?_⟩
        repeat (go_big_quiet_step (fail))
        refine wpQuiet_nil ?_
        go_wp2_with fail
        rw[zAL]
        rw[HE.out]
        exact zAv Tryz.results182 rfl rfl rfl his ((zPg _ _).alloc (by simp[zAM];omega) _).drew (by simp only[thV,e5]) (zDB (e:=30) (by simp[zAM]) (by simp[zAM];omega)).drew hb0 (zPh _)
       |true=>
        rw[e5]at x5
        go_wp2_with fail
        refine zAA (X:=none) 23 [([0,1,2],3),([4,5,6,7,8,9,10,11,12,13,14,15,16,17,18,19,20],21)] [22] (by kernel_rfl) (by kernel_rfl) rfl (fun _ _ _ _ _ h=>h) ?_
        simp only[zAI,zAC,zAF,zAD,zAB,List.getD_cons_zero,List.getD_cons_succ,List.drop_succ_cons,List.drop_nil]
        repeat (go_big_quiet_step (fail))
        refine wpQuiet_nil ?_
        go_wp2_with fail
        refine(zAK (h1.below (zPg _ _).drew) (a.next) 45 (rfl) rfl).mono ?_;rintro e ww ⟨rfl,rfl⟩
        go_wp2_with fail
        refine⟨zAJ.refl _,?_⟩
        repeat (go_big_quiet_step (fail))
        refine wpQuiet_nil ?_
        go_wp2_with fail
        refine(zAK (h1.below (zPg _ _).drew) (a.next+1) 93 (rfl) rfl).mono ?_;rintro e ww ⟨rfl,rfl⟩
        go_wp2_with fail
        refine⟨zAJ.refl _,?_⟩
        repeat (go_big_quiet_step (fail))
        refine wpQuiet_nil ?_
        go_wp2_with fail
        refine(zEg (h1.below (zPg _ _).drew) (a.next+1) (by omega) (by omega)).mono ?_;rintro e w2 ⟨v,rfl,hf,hb1⟩
        generalize hth2:zAT L at0 (a.next+1)=r2 at*
        obtain⟨c,fc⟩:=r2
        have HT2:=zPf hth2
        clear hth2
        simp only at hf
        have hbd:Below wx.heap.size wx w2:=Below.trans (zPg _ _).drew hb1
        go_upto_region 13 with fail
        have hy:zFq (w2.alloc (.cells #[.int .u64 c.set.w0.toNat,.int .u64 c.set.w1.toNat,.int .u64 c.set.w2.toNat,.int .u64 c.set.w3.toNat,.int .u8 (c.b:Nat),.bool c.fin,.int .i64 (c.next:Nat)] 253)) w2.heap.size c:=zPs w2 _
        have hby:Below w2.heap.size w2 (w2.alloc (.cells #[.int .u64 c.set.w0.toNat,.int .u64 c.set.w1.toNat,.int .u64 c.set.w2.toNat,.int .u64 c.set.w3.toNat,.int .u8 (c.b:Nat),.bool c.fin,.int .i64 (c.next:Nat)] 253)):=(zPg _ _).alloc (zPh _) _
        have hsy:w2.heap.size<(w2.alloc (.cells #[.int .u64 c.set.w0.toNat,.int .u64 c.set.w1.toNat,.int .u64 c.set.w2.toNat,.int .u64 c.set.w3.toNat,.int .u8 (c.b:Nat),.bool c.fin,.int .i64 (c.next:Nat)] 253)).heap.size:=by simp
        revert hy hby hsy
        generalize w2.alloc (.cells #[.int .u64 c.set.w0.toNat,.int .u64 c.set.w1.toNat,.int .u64 c.set.w2.toNat,.int .u64 c.set.w3.toNat,.int .u8 (c.b:Nat),.bool c.fin,.int .i64 (c.next:Nat)] 253)=wy
        intro hy hby hsy
        have hbw2:Below wx.heap.size wx wy:=hbd.trans (hby.mono hbd.size)
        have hbe2:=hb0.trans (hbw2.mono hle)
        have hz2:=HZ.out.below hbw2
        have his2:=hz2.is
        clear z0 z1 z2 z3 z4 z5 z6 f0
        obtain⟨z0,z1,z2,z3,z4,z5,z6⟩:=hz2.cells
        have f0:=zAE hz2
        clear x0 x1 x2 x3 x4 x5 x6
        obtain⟨x0,x1,x2,x3,x4,x5,x6⟩:=(HX.out.below hbw2).cells
        obtain⟨y0,y1,y2,y3,y4,y5,y6⟩:=hy.cells
        have hfy:Flt wx.heap.size wy v fc:=(by exact hf:Flt wx.heap.size w2 v fc).below hby
        have hly:=hbw2.size
        have hlz:w.heap.size<wy.heap.size:=by omega
        have hlb:b8<wy.heap.size:=by omega
        have hlr:rb<wy.heap.size:=by omega
        clear hbd hby hz2 hf hb1 hy
        generalize w2.heap.size=b9 at*
        cases fc with
        |some f=>
         have HE:Hid (zAb L at0 n true=(c,some f)):=hIT.out.trans (by simp[e1,e3,g2,e4,e5])
         obtain⟨fe,fat⟩:=f
         obtain⟨fb,rfl,hfge,hflt,hfc0,hfc1⟩:=hfy
         have hfl:Hid (Flt wx.heap.size wy (.pointer (some ⟨fb,0,none⟩)) (some (fe,fat))):=⟨fb,rfl,hfge,hflt,hfc0,hfc1⟩
         clear hfc0 hfc1
         go_wp2_with fail
         rw[zAL]
         rw[HE.out]
         exact zAv Tryz.results182 rfl rfl rfl his2 (zPg _ _) rfl ((hfl.out.set hlx _ _ _ _ _ _ _).mono hle) hbe2 (zPh _)
        |none=>
         have hv:v= .pointer none:=hfy
         subst hv
         clear hfy
         obtain⟨hc1,hc2,hcb⟩:=zBd HT2.out h1.m.u
         cases e6:c.fin with
         |false=>
          rw[e6]at y5
          have HE:Hid (zAb L at0 n true=(c,some (30,n))):=hIT.out.trans (by simp[e1,e3,g2,e4,e5,e6])
          go_wp2_with fail
          rw[zAL]
          rw[HE.out]
          exact zAv Tryz.results182 rfl rfl rfl his2 ((zPg _ _).alloc (by simp[zAM];omega) _) (by simp only[thV,e6]) (zDB (e:=30) (by simp[zAM]) (by simp[zAM];omega)) hbe2 (zPh _)
         |true=>
          by_cases g3:c.b<a.b
          ·
           rw[e6]at y5
           have HE:Hid (zAb L at0 n true=(c,some (30,n))):=hIT.out.trans (by simp[e1,e3,g2,e4,e5,e6,g3])
           go_wp2_with fail
           rw[zAL]
           rw[HE.out]
           exact zAv Tryz.results182 rfl rfl rfl his2 ((zPg _ _).alloc (by simp[zAM];omega) _) (by simp only[thV,e6]) (zDB (e:=30) (by simp[zAM]) (by simp[zAM];omega)) hbe2 (zPh _)
          ·
           rw[e6]at y5
           have HE:Hid (zAb L at0 n true=(⟨Cls.range a.b c.b,0,false,c.next⟩,none)):=hIT.out.trans (by simp[e1,e3,g2,e4,e5,e6,g3])
           go_wp2_with fail
           refine zAA (X:=none) 8 [([0,1,2,3,5,6],4)] [7] (by kernel_rfl) (by kernel_rfl) rfl (fun _ _ _ _ _ h=>h) ?_
           simp only[zAI,zAC,zAF,zAD,zAB,List.getD_cons_zero,List.getD_cons_succ,List.drop_succ_cons,List.drop_zero]
           repeat (go_big_quiet_step (fail))
           refine wpQuiet_nil ?_
           go_wp2_with fail
           refine(zBO _ _ (by omega) (by omega) (by omega) (by omega) _).mono ?_;rintro e w3 ⟨rfl,hb3⟩
           have hkp:=zAJ.of_below (X:=none) hb3
           replace hb3:Below wy.heap.size wy w3:=Below.trans (zPg _ _).drew hb3
           have hbe3:=hbe2.trans (hb3.mono (by omega))
           have hz3:=HZ.out.below (hbw2.trans (hb3.mono hly))
           have his3:=hz3.is
           clear z0 z1 z2 z3 z4 z5 z6 f0
           obtain⟨z0,z1,z2,z3,z4,z5,z6⟩:=hz3.cells
           have f0:=zAE hz3
           clear hz3
           go_wp2_with fail
           refine⟨hkp,?_⟩
           clear hkp
           repeat (go_big_quiet_step (fail))
           refine wpQuiet_nil ?_
           go_wp2_with fail
           rw[zAL]
           rw[HE.out]
           exact zAv Tryz.results182 rfl rfl rfl his3 (zPg _ _) rfl rfl hbe3 (zPh _)
   |false=>
    cases e2:signAt L (n+1) 93 with
    |true=>
     go_wp2_with fail
     refine(zAK h1 (n) 45 (rfl) rfl).mono ?_;rintro e ww ⟨rfl,rfl⟩
     go_wp2_with fail
     refine(zAK h1 (n+1) 93 (by omega) rfl).mono ?_;rintro e ww ⟨rfl,rfl⟩
     cases e3:signAt L a.next 45 with
     |false=>
      have HE:Hid (zAb L at0 n false=(a,none)):=hIT.out.trans (by simp[e1,e2,e3])
      go_wp2_with fail
      refine zAA (X:=none) 23 [([0,1,2],3),([4,5,6,7,8,9,10,11,12,13,14,15,16,17,18,19,20],21)] [22] (by kernel_rfl) (by kernel_rfl) rfl (fun _ _ _ _ _ h=>h) ?_
      simp only[zAI,zAC,zAF,zAD,zAB,List.getD_cons_zero,List.getD_cons_succ,List.drop_succ_cons,List.drop_nil]
      repeat (go_big_quiet_step (fail))
      refine wpQuiet_nil ?_
      go_wp2_with fail
      refine(zAK (h1.below (zPg _ _).drew) (a.next) 45 (rfl) rfl).mono ?_;rintro e ww ⟨rfl,rfl⟩
      go_wp2_with fail
      refine⟨zAJ.refl _,?_⟩
      repeat (go_big_quiet_step (fail))
      refine wpQuiet_nil ?_
      go_wp2_with fail
      refine⟨zAJ.refl _,?_⟩
      repeat (go_big_quiet_step (fail))
      refine wpQuiet_nil ?_
      go_wp2_with fail
      rw[zAL]
      rw[HE.out]
      exact zAv Tryz.results182 rfl rfl rfl his (zPg _ _).drew rfl rfl hb0 (zPh _)
     |true=>
      by_cases g2:L.length≤a.next+1
      ·
       have t2:decide ((L.length:Int)≤(a.next:Int)+1)=true:=by simp;omega
       have HE:Hid (zAb L at0 n false=(a,none)):=hIT.out.trans (by simp[e1,e2,e3,g2])
       go_wp2_with fail
       refine zAA (X:=none) 23 [([0,1,2],3),([4,5,6,7,8,9,10,11,12,13,14,15,16,17,18,19,20],21)] [22] (by kernel_rfl) (by kernel_rfl) rfl (fun _ _ _ _ _ h=>h) ?_
       simp only[zAI,zAC,zAF,zAD,zAB,List.getD_cons_zero,List.getD_cons_succ,List.drop_succ_cons,List.drop_nil]
       repeat (go_big_quiet_step (fail))
       refine wpQuiet_nil ?_
       go_wp2_with fail
       refine(zAK (h1.below (zPg _ _).drew) (a.next) 45 (rfl) rfl).mono ?_;rintro e ww ⟨rfl,rfl⟩
       go_wp2_with fail
       refine⟨zAJ.refl _,?_⟩
       repeat (go_big_quiet_step (fail))
       refine wpQuiet_nil ?_
       go_wp2_with fail
       refine⟨zAJ.refl _,?_⟩
       repeat (go_big_quiet_step (fail))
       refine wpQuiet_nil ?_
       go_wp2_with fail
       rw[zAL]
       rw[HE.out]
       exact zAv Tryz.results182 rfl rfl rfl his (zPg _ _).drew rfl rfl hb0 (zPh _)
      ·have t2:decide ((L.length:Int)≤(a.next:Int)+1)=false:=by simp;omega
       cases e4:signAt L (a.next+1) 93 with
       |true=>
        have HE:Hid (zAb L at0 n false=(a,none)):=hIT.out.trans (by simp[e1,e2,e3,g2,e4])
        go_wp2_with fail
        refine zAA (X:=none) 23 [([0,1,2],3),([4,5,6,7,8,9,10,11,12,13,14,15,16,17,18,19,20],21)] [22] (by kernel_rfl) (by kernel_rfl) rfl (fun _ _ _ _ _ h=>h) ?_
        simp only[zAI,zAC,zAF,zAD,zAB,List.getD_cons_zero,List.getD_cons_succ,List.drop_succ_cons,List.drop_nil]
        repeat (go_big_quiet_step (fail))
        refine wpQuiet_nil ?_
        go_wp2_with fail
        refine(zAK (h1.below (zPg _ _).drew) (a.next) 45 (rfl) rfl).mono ?_;rintro e ww ⟨rfl,rfl⟩
        go_wp2_with fail
        refine⟨zAJ.refl _,?_⟩
        repeat (go_big_quiet_step (fail))
        refine wpQuiet_nil ?_
        go_wp2_with fail
        refine(zAK (h1.below (zPg _ _).drew) (a.next+1) 93 (rfl) rfl).mono ?_;rintro e ww ⟨rfl,rfl⟩
        go_wp2_with fail
        refine⟨zAJ.refl _,?_⟩
        repeat (go_big_quiet_step (fail))
        refine wpQuiet_nil ?_
        go_wp2_with fail
        rw[zAL]
        rw[HE.out]
        exact zAv Tryz.results182 rfl rfl rfl his (zPg _ _).drew rfl rfl hb0 (zPh _)
       |false=>
        cases e5:a.fin with
        |false=>
         rw[e5]at x5
         have HE:Hid (zAb L at0 n false=(a,some (30,n))):=hIT.out.trans (by simp[e1,e2,e3,g2,e4,e5])
         go_wp2_with fail
         refine zAA (X:=none) 23 [([0,1,2],3),([4,5,6,7,8,9,10,11,12,13,14,15,16,17,18,19,20],21)] [22] (by kernel_rfl) (by kernel_rfl) rfl (fun _ _ _ _ _ h=>h) ?_
         simp only[zAI,zAC,zAF,zAD,zAB,List.getD_cons_zero,List.getD_cons_succ,List.drop_succ_cons,List.drop_nil]
         repeat (go_big_quiet_step (fail))
         refine wpQuiet_nil ?_
         go_wp2_with fail
         refine(zAK (h1.below (zPg _ _).drew) (a.next) 45 (rfl) rfl).mono ?_;rintro e ww ⟨rfl,rfl⟩
         go_wp2_with fail
         refine⟨zAJ.refl _,?_⟩
         repeat (go_big_quiet_step (fail))
         refine wpQuiet_nil ?_
         go_wp2_with fail
         refine(zAK (h1.below (zPg _ _).drew) (a.next+1) 93 (rfl) rfl).mono ?_;rintro e ww ⟨rfl,rfl⟩
         go_wp2_with fail
         refine⟨zAJ.refl _,?_⟩
         repeat (go_big_quiet_step (fail))
         refine wpQuiet_nil ?_
         go_wp2_with fail
         rw[zAL]
         rw[HE.out]
         exact zAv Tryz.results182 rfl rfl rfl his ((zPg _ _).alloc (by simp[zAM];omega) _).drew (by simp only[thV,e5]) (zDB (e:=30) (by simp[zAM]) (by simp[zAM];omega)).drew hb0 (zPh _)
        |true=>
         rw[e5]at x5
         go_wp2_with fail
         refine zAA (X:=none) 23 [([0,1,2],3),([4,5,6,7,8,9,10,11,12,13,14,15,16,17,18,19,20],21)] [22] (by kernel_rfl) (by kernel_rfl) rfl (fun _ _ _ _ _ h=>h) ?_
         simp only[zAI,zAC,zAF,zAD,zAB,List.getD_cons_zero,List.getD_cons_succ,List.drop_succ_cons,List.drop_nil]
         repeat (go_big_quiet_step (fail))
         refine wpQuiet_nil ?_
         go_wp2_with fail
         refine(zAK (h1.below (zPg _ _).drew) (a.next) 45 (rfl) rfl).mono ?_;rintro e ww ⟨rfl,rfl⟩
         go_wp2_with fail
         refine⟨zAJ.refl _,?_⟩
         repeat (go_big_quiet_step (fail))
         refine wpQuiet_nil ?_
         go_wp2_with fail
         refine(zAK (h1.below (zPg _ _).drew) (a.next+1) 93 (rfl) rfl).mono ?_;rintro e ww ⟨rfl,rfl⟩
         go_wp2_with fail
         refine⟨zAJ.refl _,?_⟩
         repeat (go_big_quiet_step (fail))
         refine wpQuiet_nil ?_
         go_wp2_with fail
         refine(zEg (h1.below (zPg _ _).drew) (a.next+1) (by omega) (by omega)).mono ?_;rintro e w2 ⟨v,rfl,hf,hb1⟩
         generalize hth2:zAT L at0 (a.next+1)=r2 at*
         obtain⟨c,fc⟩:=r2
         have HT2:=zPf hth2
         clear hth2
         simp only at hf
         have hbd:Below wx.heap.size wx w2:=Below.trans (zPg _ _).drew hb1
         go_upto_region 13 with fail
         have hy:zFq (w2.alloc (.cells #[.int .u64 c.set.w0.toNat,.int .u64 c.set.w1.toNat,.int .u64 c.set.w2.toNat,.int .u64 c.set.w3.toNat,.int .u8 (c.b:Nat),.bool c.fin,.int .i64 (c.next:Nat)] 253)) w2.heap.size c:=zPs w2 _
         have hby:Below w2.heap.size w2 (w2.alloc (.cells #[.int .u64 c.set.w0.toNat,.int .u64 c.set.w1.toNat,.int .u64 c.set.w2.toNat,.int .u64 c.set.w3.toNat,.int .u8 (c.b:Nat),.bool c.fin,.int .i64 (c.next:Nat)] 253)):=(zPg _ _).alloc (zPh _) _
         have hsy:w2.heap.size<(w2.alloc (.cells #[.int .u64 c.set.w0.toNat,.int .u64 c.set.w1.toNat,.int .u64 c.set.w2.toNat,.int .u64 c.set.w3.toNat,.int .u8 (c.b:Nat),.bool c.fin,.int .i64 (c.next:Nat)] 253)).heap.size:=by simp
         revert hy hby hsy
         generalize w2.alloc (.cells #[.int .u64 c.set.w0.toNat,.int .u64 c.set.w1.toNat,.int .u64 c.set.w2.toNat,.int .u64 c.set.w3.toNat,.int .u8 (c.b:Nat),.bool c.fin,.int .i64 (c.next:Nat)] 253)=wy
         intro hy hby hsy
         have hbw2:Below wx.heap.size wx wy:=hbd.trans (hby.mono hbd.size)
         have hbe2:=hb0.trans (hbw2.mono hle)
         have hz2:=HZ.out.below hbw2
         have his2:=hz2.is
         clear z0 z1 z2 z3 z4 z5 z6 f0
         obtain⟨z0,z1,z2,z3,z4,z5,z6⟩:=hz2.cells
         have f0:=zAE hz2
         clear x0 x1 x2 x3 x4 x5 x6
         obtain⟨x0,x1,x2,x3,x4,x5,x6⟩:=(HX.out.below hbw2).cells
         obtain⟨y0,y1,y2,y3,y4,y5,y6⟩:=hy.cells
         have hfy:Flt wx.heap.size wy v fc:=(by exact hf:Flt wx.heap.size w2 v fc).below hby
         have hly:=hbw2.size
         have hlz:w.heap.size<wy.heap.size:=by omega
         have hlb:b8<wy.heap.size:=by omega
         have hlr:rb<wy.heap.size:=by omega
         clear hbd hby hz2 hf hb1 hy
         generalize w2.heap.size=b9 at*
         cases fc with
         |some f=>
          have HE:Hid (zAb L at0 n false=(c,some f)):=hIT.out.trans (by simp[e1,e2,e3,g2,e4,e5])
          obtain⟨fe,fat⟩:=f
          obtain⟨fb,rfl,hfge,hflt,hfc0,hfc1⟩:=hfy
          have hfl:Hid (Flt wx.heap.size wy (.pointer (some ⟨fb,0,none⟩)) (some (fe,fat))):=⟨fb,rfl,hfge,hflt,hfc0,hfc1⟩
          clear hfc0 hfc1
          go_wp2_with fail
          rw[zAL]
          rw[HE.out]
          exact zAv Tryz.results182 rfl rfl rfl his2 (zPg _ _) rfl ((hfl.out.set hlx _ _ _ _ _ _ _).mono hle) hbe2 (zPh _)
         |none=>
          have hv:v= .pointer none:=hfy
          subst hv
          clear hfy
          obtain⟨hc1,hc2,hcb⟩:=zBd HT2.out h1.m.u
          cases e6:c.fin with
          |false=>
           rw[e6]at y5
           have HE:Hid (zAb L at0 n false=(c,some (30,n))):=hIT.out.trans (by simp[e1,e2,e3,g2,e4,e5,e6])
           go_wp2_with fail
           rw[zAL]
           rw[HE.out]
           exact zAv Tryz.results182 rfl rfl rfl his2 ((zPg _ _).alloc (by simp[zAM];omega) _) (by simp only[thV,e6]) (zDB (e:=30) (by simp[zAM]) (by simp[zAM];omega)) hbe2 (zPh _)
          |true=>
           by_cases g3:c.b<a.b
           ·
            rw[e6]at y5
            have HE:Hid (zAb L at0 n false=(c,some (30,n))):=hIT.out.trans (by simp[e1,e2,e3,g2,e4,e5,e6,g3])
            go_wp2_with fail
            rw[zAL]
            rw[HE.out]
            exact zAv Tryz.results182 rfl rfl rfl his2 ((zPg _ _).alloc (by simp[zAM];omega) _) (by simp only[thV,e6]) (zDB (e:=30) (by simp[zAM]) (by simp[zAM];omega)) hbe2 (zPh _)
           ·
            rw[e6]at y5
            have HE:Hid (zAb L at0 n false=(⟨Cls.range a.b c.b,0,false,c.next⟩,none)):=hIT.out.trans (by simp[e1,e2,e3,g2,e4,e5,e6,g3])
            go_wp2_with fail
            refine zAA (X:=none) 8 [([0,1,2,3,5,6],4)] [7] (by kernel_rfl) (by kernel_rfl) rfl (fun _ _ _ _ _ h=>h) ?_
            simp only[zAI,zAC,zAF,zAD,zAB,List.getD_cons_zero,List.getD_cons_succ,List.drop_succ_cons,List.drop_zero]
            repeat (go_big_quiet_step (fail))
            refine wpQuiet_nil ?_
            go_wp2_with fail
            refine(zBO _ _ (by omega) (by omega) (by omega) (by omega) _).mono ?_;rintro e w3 ⟨rfl,hb3⟩
            have hkp:=zAJ.of_below (X:=none) hb3
            replace hb3:Below wy.heap.size wy w3:=Below.trans (zPg _ _).drew hb3
            have hbe3:=hbe2.trans (hb3.mono (by omega))
            have hz3:=HZ.out.below (hbw2.trans (hb3.mono hly))
            have his3:=hz3.is
            clear z0 z1 z2 z3 z4 z5 z6 f0
            obtain⟨z0,z1,z2,z3,z4,z5,z6⟩:=hz3.cells
            have f0:=zAE hz3
            clear hz3
            go_wp2_with fail
            refine⟨hkp,?_⟩
            clear hkp
            repeat (go_big_quiet_step (fail))
            refine wpQuiet_nil ?_
            go_wp2_with fail
            rw[zAL]
            rw[HE.out]
            exact zAv Tryz.results182 rfl rfl rfl his3 (zPg _ _) rfl rfl hbe3 (zPh _)
    |false=>
     by_cases g1:L.length≤n+1
     ·
      have HE:Hid (zAb L at0 n false=(a,some (32,at0))):=hIT.out.trans (by simp[e1,e2,g1])
      go_wp2_with fail
      refine(zAK h1 (n) 45 (rfl) rfl).mono ?_;rintro e ww ⟨rfl,rfl⟩
      go_wp2_with fail
      refine(zAK h1 (n+1) 93 (by omega) rfl).mono ?_;rintro e ww ⟨rfl,rfl⟩
      go_wp2_with fail
      refine zAA (X:=none) 3 [([0,1],2)] [] (by kernel_rfl) (by kernel_rfl) rfl (fun _ _ _ _ _ h=>h) ?_
      simp only[zAI,zAC,zAF,zAD,zAB,List.getD_cons_zero,List.getD_cons_succ,List.drop_succ_cons,List.drop_zero]
      repeat (go_big_quiet_step (fail))
      refine wpQuiet_nil ?_
      go_wp2_with fail
      refine(zEu (h1.below (zPg _ _).drew)).mono ?_;rintro e w2 ⟨v,rfl,hf,hb1⟩
      have hkp:=zAJ.of_below (X:=none) hb1
      replace hb1:Below wx.heap.size wx w2:=Below.trans (zPg _ _).drew hb1
      have hz1:=HZ.out.below hb1
      have his1:=hz1.is
      have hbe1:=hb0.trans (hb1.mono hle)
      have HF:=zPf (by exact hf:Flt wx.heap.size w2 v (some (32,at0)))
      obtain⟨z0,z1,z2,z3,z4,z5,z6⟩:=hz1.cells
      have f0:=zAE hz1
      clear hf hb1 hz1
      go_wp2_with fail
      refine⟨hkp,wpQuiet_nil ?_⟩
      clear hkp
      go_wp2_with fail
      rw[zAL]
      rw[HE.out]
      exact zAv Tryz.results182 rfl rfl rfl his1 (zPg _ _) rfl ((HF.out.set hlx _ _ _ _ _ _ _).mono hle) hbe1 (zPh _)
     ·
      have HE:Hid (zAb L at0 n false=(a,some (30,n))):=hIT.out.trans (by simp[e1,e2,g1])
      go_wp2_with fail
      refine(zAK h1 (n) 45 (rfl) rfl).mono ?_;rintro e ww ⟨rfl,rfl⟩
      go_wp2_with fail
      refine(zAK h1 (n+1) 93 (by omega) rfl).mono ?_;rintro e ww ⟨rfl,rfl⟩
      go_wp2_with fail
      rw[zAL]
      rw[HE.out]
      exact zAv Tryz.results182 rfl rfl rfl his ((zPg _ _).alloc (by simp[zAM];omega) _) rfl (zDB (e:=30) (by simp[zAM]) (by simp[zAM];omega)) hb0 (zPh _)
end
section
open Go.RowKit
def zOv (w:World) (B:Nat):Prop:= ∃a0 a1 a2 a3:Value,w.heap[B]?=some (.cells #[a0,a1,a2,a3] 76 (0,0))
theorem zAc.is {w:World} {B:Nat} {c:Cls} (h:zAc w B c):zOv w B:=⟨_,_,_,_,h⟩
theorem zOv.lt {w:World} {B:Nat} (h:zOv w B):B<w.heap.size:=by
 obtain⟨_,_,_,_,h⟩:=h
 exact(zPn.1 h).1
def zG4 (w:World) (B:Nat) (s0 s1 s2 s3:Int):World:=
 (((w.setCell ⟨B,0,none⟩ (.int .u64 s0)).setCell ⟨B,1,none⟩ (.int .u64 s1)).setCell ⟨B,2,none⟩ (.int .u64 s2)).setCell ⟨B,3,none⟩ (.int .u64 s3)
theorem zBy (w:World) (B:Nat) (s0 s1 s2 s3:Int):
  (((w.setCell ⟨B,0,none⟩ (.int .u64 s0)).setCell ⟨B,1,none⟩ (.int .u64 s1)).setCell ⟨B,2,none⟩ (.int .u64 s2)).setCell ⟨B,3,none⟩ (.int .u64 s3)=zG4 w B s0 s1 s2 s3:=rfl
theorem zNB {w:World} {B:Nat} (h:zOv w B) (s0 s1 s2 s3:Int):
  (zG4 w B s0 s1 s2 s3).heap[B]?=some (.cells #[.int .u64 s0,.int .u64 s1,.int .u64 s2,.int .u64 s3] 76 (0,0)):=by
 obtain⟨a0,a1,a2,a3,h⟩:=h
 simp[zG4,World.setCell,Array.getElem?_modify,h]
theorem zCx {w:World} {B k:Nat} (h:k≤B) (s0 s1 s2 s3:Int):Below k w (zG4 w B s0 s1 s2 s3):=
 ((((zPg k w).setCell (p:=⟨B,0,none⟩) h _).setCell (p:=⟨B,1,none⟩) h _).setCell (p:=⟨B,2,none⟩) h _).setCell (p:=⟨B,3,none⟩) h _
theorem zJZ {w:World} {B k:Nat} (h:k≠B) (s0 s1 s2 s3:Int):(zG4 w B s0 s1 s2 s3).heap[k]?=w.heap[k]?:=by
 unfold zG4
 rw[zPp _ _ _ _ h,zPp _ _ _ _ h,zPp _ _ _ _ h,zPp _ _ _ _ h]
theorem zKr {w:World} {B:Nat} (s0 s1 s2 s3:Int):(zG4 w B s0 s1 s2 s3).heap.size=w.heap.size:=by simp[zG4]
theorem zMO {w1:World} {B:Nat} {s0 s1 s2 s3:Int} (h1:w1.heap[B]?=some (.cells #[.int .u64 s0,.int .u64 s1,.int .u64 s2,.int .u64 s3] 76 (0,0))):
  (loadVar 76 ⟨B,0,none⟩).run Tryz.prog w1= .ok (.agg #[.int .u64 s0,.int .u64 s1,.int .u64 s2,.int .u64 s3]) w1:=by
 have hc: ∀j,w1.cell? ⟨B,j,none⟩=(#[.int .u64 s0,.int .u64 s1,.int .u64 s2,.int .u64 s3]:Array Value)[j]?:=fun j=>zPu w1 B j _ _ (0,0) h1
 have c0:=hc 0
 have c1:=hc 1
 have c2:=hc 2
 have c3:=hc 3
 simp only[List.getElem?_toArray,List.getElem?_cons_zero,List.getElem?_cons_succ]at c0 c1 c2 c3
 simp[go_sem,c0,c1,c2,c3]
theorem zFE {fn:Func} {p u v:Tmp} {ty:TypeId} (h:fn.results= #[.cell p ty,.tmp u,.tmp v]) (tmps:Array Value) (P:Program) (w:World):
  (results fn tmps).run P w=
   ((asAddr (tmps.getD p undef)).run P w).andThen fun a w₁=>((loadVar ty a).run P w₁).andThen fun x w₂=> .ok (.tuple #[x,tmps.getD u undef,tmps.getD v undef]) w₂:=by
 simp only[results,h]
 simp[Sem.run_bind,Result.andThen]
def brV:Except (Nat × Nat) (Cls × Nat)→Value
 | .error (f,p)=> .tuple #[zBE Cls.zero,.int .i64 (p:Nat),.int .i64 (f:Nat)]
 | .ok (c,i)=> .tuple #[zBE c,.int .i64 (i:Nat),.int .i64 0]
theorem zHR {fn:Func} {p u v:Tmp} (h:fn.results= #[.cell p 76,.tmp u,.tmp v]) {a:Act} {w W w0:World} {B:Nat} {s0 s1 s2 s3:Int} {x y:Value} {r:Except (Nat × Nat) (Cls × Nat)}
  (ha:a.tmps.getD p undef= .pointer (some ⟨B,0,none⟩)) (hu:a.tmps.getD u undef=x) (hv:a.tmps.getD v undef=y) (hd:a.defers=[]) (his:zOv w B) (hW:Below (B+1) (zG4 w B s0 s1 s2 s3) W)
  (hr:brV r= .tuple #[.agg #[.int .u64 s0,.int .u64 s1,.int .u64 s2,.int .u64 s3],x,y]) (hb:Below w0.heap.size w0 w) (hB:w0.heap.size≤B):
  bodyPost Tryz.prog fn (fun e w'=>e= .returned (brV r)∧Below w0.heap.size w0 w') .ret a W:=by
 refine zQG (v:=brV r) ?_ hd ⟨rfl,(hb.trans (zCx hB _ _ _ _)).trans (hW.mono (by omega))⟩
 rw[zFE h,ha,hu,hv,hr]
 simp[asAddr,zMO ((hW.block B (Nat.lt_succ_self _)).trans (zNB his s0 s1 s2 s3)),Result.andThen]
theorem zL6 {mb mo cap:Nat} {L:List Mk} {w:World} (hm:zE8 w mb mo L) {a:Int} (at0:Nat) (ha:a=at0) (hs:signAt L at0 91=true):
  Calls Tryz.prog 154 #[.slice (some ⟨mb,mo,none⟩) L.length cap,.int .i64 a] w fun e w'=>e= .returned (brV (zAs L at0))∧Below w.heap.size w w':=by
 subst ha
 have hL:=hm.len
 have hmb:=hm.lt
 have hat:=zCC hs
 have h1:Br ((w.alloc (.cells #[.int .u64 0,.int .u64 0,.int .u64 0,.int .u64 0] 76)).alloc (.cells #[.slice (some ⟨mb,mo,none⟩) L.length cap,.int .i64 (at0:Nat)] 251)) (w.heap.size+1) mb mo cap L at0:=⟨by simp,by rw[cell_of_row _ _ 0 _ _ (0,0) (zBc (by simp))];rfl,by rw[cell_of_row _ _ 1 _ _ (0,0) (zBc (by simp))];rfl,hm.below (by repeat (first|exact zPg _ _|assumption|refine zP8 ?_|refine zP6 ?_ (by first|(simp;done)|(simp;omega)|omega) _|refine zP7 ?_ (by first|(simp;done)|(simp;omega)|omega) _)),by omega⟩
 have hz:zAc ((w.alloc (.cells #[.int .u64 0,.int .u64 0,.int .u64 0,.int .u64 0] 76)).alloc (.cells #[.slice (some ⟨mb,mo,none⟩) L.length cap,.int .i64 (at0:Nat)] 251)) w.heap.size Cls.zero:=(zPt _ _ (by simp)).trans (zPs _ _)
 have hb0:Below w.heap.size w ((w.alloc (.cells #[.int .u64 0,.int .u64 0,.int .u64 0,.int .u64 0] 76)).alloc (.cells #[.slice (some ⟨mb,mo,none⟩) L.length cap,.int .i64 (at0:Nat)] 251)):=(by repeat (first|exact zPg _ _|assumption|refine zP8 ?_|refine zP6 ?_ (by first|(simp;done)|(simp;omega)|omega) _|refine zP7 ?_ (by first|(simp;done)|(simp;omega)|omega) _))
 have hsr:w.heap.size+1<((w.alloc (.cells #[.int .u64 0,.int .u64 0,.int .u64 0,.int .u64 0] 76)).alloc (.cells #[.slice (some ⟨mb,mo,none⟩) L.length cap,.int .i64 (at0:Nat)] 251)).heap.size:=by simp
 go_enter Tryz.func154,Tryz.ntmps154
 go_upto_region 2 with fail
 revert h1 hz hb0 hsr
 generalize (w.alloc (.cells #[.int .u64 0,.int .u64 0,.int .u64 0,.int .u64 0] 76)).alloc (.cells #[.slice (some ⟨mb,mo,none⟩) L.length cap,.int .i64 (at0:Nat)] 251)=wq
 intro h1 hz hb0 hsr
 have HZ:=zPf hz
 obtain⟨z0,z1,z2,z3⟩:=hz.cells
 have f0:=zAE hz
 have hbw:=hb0
 clear hz
 cases e1:signAt L (at0+1) 94 with
 |false=>
  have hi0: ∃i0,i0=at0+1∧i0≤L.length:=⟨at0+1,rfl,by omega⟩
  obtain⟨i0,hi0,hi1⟩:=hi0
  have HB:Hid (zAs L at0=match zA1 L at0 (L.length+2) Cls.zero i0 true with| .error f=> .error f| .ok (c,i)=> .ok (c,i+1)):=by
   simp only[Hid,zAs,e1,hi0]
   rfl
  go_wp2_with fail
  refine(zAK h1 at0 91 rfl rfl).mono ?_;rintro e ww ⟨rfl,rfl⟩
  go_wp2_with fail
  refine(zAK h1 (at0+1) 94 (by omega) rfl).mono ?_;rintro e ww ⟨rfl,rfl⟩
  go_wp2_with fail
  go_loopw [8,11] (fun i f wr=> ∃(k n:Nat) (c:Cls) (first:Bool),i= .int .i64 n∧f= .bool first∧n≤L.length∧i0≤n∧L.length+2≤k+n∧
    Hid (zA1 L at0 (L.length+2) Cls.zero i0 true=zA1 L at0 k c n first)∧zAc wr wq.heap.size c∧Below wq.heap.size wq wr) (fun i _ _=>L.length - (intOf i).toNat)
  case atStart=>exact⟨L.length+2,i0,Cls.zero,true,by rw[hi0];go_num,rfl,hi1,zPh _,by omega,rfl,zPs wq _,(by repeat (first|exact zPg _ _|assumption|refine zP8 ?_|refine zP6 ?_ (by first|(simp;done)|(simp;omega)|omega) _|refine zP7 ?_ (by first|(simp;done)|(simp;omega)|omega) _))⟩
  case round=>
   obtain⟨k,n,c,first,rfl,rfl,hn1,hn2,hk,HS,hc,hbe⟩:=hrel
   have h2:=h1.below hbe
   have hz2:=HZ.out.below hbe
   have hls:=hb0.size
   clear z0 z1 z2 z3 f0
   obtain⟨z0,z1,z2,z3⟩:=hz2.cells
   have f0:=zAE hz2
   obtain⟨q0,q1,q2,q3⟩:=hc.cells
   have g0:=zAE hc
   have hcl:=hc.lt
   have HC:=zPf hc
   have HZX:=zPf hz2
   clear hc hz2
   cases first with
   |true=>
    go_wp2_with fail
    refine(zF7 h2 n rfl (by omega) true).mono ?_;rintro e w2 ⟨v,rfl,hf,hb1⟩
    obtain⟨kk,rfl⟩: ∃m,k=m+1:=⟨k - 1,by omega⟩
    generalize hit:zAb L at0 n true=r at*
    obtain⟨a,fa⟩:=r
    have HT:=zPf hit
    clear hit
    simp only at hf
    go_upto_region 13 with fail
    have hx:zFq (w2.alloc (.cells #[.int .u64 a.set.w0.toNat,.int .u64 a.set.w1.toNat,.int .u64 a.set.w2.toNat,.int .u64 a.set.w3.toNat,.int .u8 (a.b:Nat),.bool a.fin,.int .i64 (a.next:Nat)] 253)) w2.heap.size a:=zPs w2 _
    have hbx:Below w2.heap.size w2 (w2.alloc (.cells #[.int .u64 a.set.w0.toNat,.int .u64 a.set.w1.toNat,.int .u64 a.set.w2.toNat,.int .u64 a.set.w3.toNat,.int .u8 (a.b:Nat),.bool a.fin,.int .i64 (a.next:Nat)] 253)):=(zPg _ _).alloc (zPh _) _
    have hsx:w2.heap.size<(w2.alloc (.cells #[.int .u64 a.set.w0.toNat,.int .u64 a.set.w1.toNat,.int .u64 a.set.w2.toNat,.int .u64 a.set.w3.toNat,.int .u8 (a.b:Nat),.bool a.fin,.int .i64 (a.next:Nat)] 253)).heap.size:=by simp
    revert hx hbx hsx
    generalize w2.alloc (.cells #[.int .u64 a.set.w0.toNat,.int .u64 a.set.w1.toNat,.int .u64 a.set.w2.toNat,.int .u64 a.set.w3.toNat,.int .u8 (a.b:Nat),.bool a.fin,.int .i64 (a.next:Nat)] 253)=w3
    intro hx hbx hsx
    have hb3:Below wr.heap.size wr w3:=hb1.trans (hbx.mono hb1.size)
    have hfx:=hf.below hbx
    have hbe3:=hbe.trans (hb3.mono hbe.size)
    have hc3:=HC.out.below hb3
    have hz3:=HZ.out.below hbe3
    clear z0 z1 z2 z3 f0 q0 q1 q2 q3 g0
    obtain⟨z0,z1,z2,z3⟩:=hz3.cells
    have f0:=zAE hz3
    have his3:=hz3.is
    obtain⟨q0,q1,q2,q3⟩:=hc3.cells
    have g0:=zAE hc3
    obtain⟨x0,x1,x2,x3,x4,x5,x6⟩:=hx.cells
    have hl3:=hb3.size
    have hlx:=hbe.size
    have hls:=hb0.size
    have h4:w.heap.size<w3.heap.size:=by omega
    have h5:wq.heap.size<w3.heap.size:=by omega
    have HC3:=zPf hc3
    have HZ3:=zPf hz3
    have hl2:=hb1.size
    clear hc3 hz3 hf hbx
    generalize w2.heap.size=b9 at*
    cases fa with
    |some f=>
     obtain⟨fe,fp⟩:=f
     have HE:Hid (zAs L at0= .error (fe,fp)):=by
      simp only[Hid]
      rw[HB.out,HS.out]
      simp[zA1,HT.out]
     obtain⟨fb,rfl,hfge,hflt,hfc0,hfc1⟩:=hfx
     have hne:w.heap.size≠fb:=by omega
     go_wp2_with fail
     refine zAA (X:=(some w.heap.size)) 12 [([0,1,2,3,4,5,6,7,8],9)] [10,11] (by kernel_rfl) (by kernel_rfl) rfl (fun _ _ _ _ _ h=>h) ?_
     simp only[zAI,zAC,zAF,zAD,zAB,List.getD_cons_zero,List.getD_cons_succ,List.drop_succ_cons,List.drop_nil]
     repeat (go_big_quiet_step (fail))
     refine wpQuiet_nil ?_
     go_wp2_with fail
     refine⟨(((zAJ.of_setCell _).trans (zAJ.of_setCell _)).trans (zAJ.of_setCell _)).trans (zAJ.of_setCell _),?_⟩
     repeat (go_big_quiet_step (fail))
     refine wpQuiet_nil ?_
     go_wp2_with fail
     rw[zBy]
     rw[HE.out]
     exact zHR Tryz.results154 rfl rfl rfl rfl his3 (zPg _ _).drew rfl (hbw.trans (hbe3.mono hls)) (zPh _)
    |none=>
     have hv:v= .pointer none:=hfx
     subst hv
     clear hfx
     obtain⟨hn3,hn4⟩:=zCO HT.out h2.m.u
     have HS2:Hid (zA1 L at0 (L.length+2) Cls.zero i0 true=zA1 L at0 kk (c.or a.set) a.next false):=by
      simp only[Hid]
      rw[HS.out]
      simp[zA1,HT.out]
     have hne:wq.heap.size≠b9:=by omega
     go_wp2_with fail
     refine zAA (X:=(some wq.heap.size)) 8 [([1,2,4,5],0),([],3),([],6)] [7] (by kernel_rfl) (by kernel_rfl) rfl (fun _ _ _ _ _ h=>h) ?_
     simp only[zAI,zAC,zAF,zAD,zAB,List.getD_cons_zero,List.getD_cons_succ,List.drop_succ_cons,List.drop_nil]
     repeat (go_big_quiet_step (fail))
     refine wpQuiet_nil ?_
     go_wp2_with fail
     refine⟨zAJ.refl _,?_⟩
     repeat (go_big_quiet_step (fail))
     refine wpQuiet_nil ?_
     go_wp2_with fail
     refine(zCd c a.set _).mono ?_;rintro e w4 ⟨rfl,hb4⟩
     have hkp:=zAJ.of_below (X:=some wq.heap.size) hb4
     replace hb4:Below w3.heap.size w3 w4:=Below.trans (zPg _ _).drew hb4
     have hc4:=HC3.out.below hb4
     clear q0 q1 q2 q3 g0
     obtain⟨q0,q1,q2,q3⟩:=hc4.cells
     have g0:=zAE hc4
     have HC4:=zPf hc4
     clear hc4
     go_wp2_with fail
     refine⟨hkp,?_⟩
     clear hkp
     repeat (go_big_quiet_step (fail))
     refine wpQuiet_nil ?_
     go_wp2_with fail
     refine⟨(((zAJ.of_setCell _).trans (zAJ.of_setCell _)).trans (zAJ.of_setCell _)).trans (zAJ.of_setCell _),?_⟩
     repeat (go_big_quiet_step (fail))
     refine wpQuiet_nil ?_
     go_wp2_with fail
     go_roundw
     case rel=>exact⟨kk,a.next,c.or a.set,false,rfl,rfl,hn4,by omega,by omega,HS2,zAu HC4.out (c.or a.set),(hbe3.trans (hb4.mono (by omega))).trans (zBC (zPh _) _)⟩
     case measure=>simp[intOf];omega
   |false=>
    cases e2:signAt L n 93 with
    |false=>
     go_wp2_with fail
     refine(zAK h2 n 93 rfl rfl).mono ?_;rintro e ww ⟨rfl,rfl⟩
     go_wp2_with fail
     refine(zF7 h2 n rfl (by omega) false).mono ?_;rintro e w2 ⟨v,rfl,hf,hb1⟩
     obtain⟨kk,rfl⟩: ∃m,k=m+1:=⟨k - 1,by omega⟩
     generalize hit:zAb L at0 n false=r at*
     obtain⟨a,fa⟩:=r
     have HT:=zPf hit
     clear hit
     simp only at hf
     go_upto_region 13 with fail
     have hx:zFq (w2.alloc (.cells #[.int .u64 a.set.w0.toNat,.int .u64 a.set.w1.toNat,.int .u64 a.set.w2.toNat,.int .u64 a.set.w3.toNat,.int .u8 (a.b:Nat),.bool a.fin,.int .i64 (a.next:Nat)] 253)) w2.heap.size a:=zPs w2 _
     have hbx:Below w2.heap.size w2 (w2.alloc (.cells #[.int .u64 a.set.w0.toNat,.int .u64 a.set.w1.toNat,.int .u64 a.set.w2.toNat,.int .u64 a.set.w3.toNat,.int .u8 (a.b:Nat),.bool a.fin,.int .i64 (a.next:Nat)] 253)):=(zPg _ _).alloc (zPh _) _
     have hsx:w2.heap.size<(w2.alloc (.cells #[.int .u64 a.set.w0.toNat,.int .u64 a.set.w1.toNat,.int .u64 a.set.w2.toNat,.int .u64 a.set.w3.toNat,.int .u8 (a.b:Nat),.bool a.fin,.int .i64 (a.next:Nat)] 253)).heap.size:=by simp
     revert hx hbx hsx
     generalize w2.alloc (.cells #[.int .u64 a.set.w0.toNat,.int .u64 a.set.w1.toNat,.int .u64 a.set.w2.toNat,.int .u64 a.set.w3.toNat,.int .u8 (a.b:Nat),.bool a.fin,.int .i64 (a.next:Nat)] 253)=w3
     intro hx hbx hsx
     have hb3:Below wr.heap.size wr w3:=hb1.trans (hbx.mono hb1.size)
     have hfx:=hf.below hbx
     have hbe3:=hbe.trans (hb3.mono hbe.size)
     have hc3:=HC.out.below hb3
     have hz3:=HZ.out.below hbe3
     clear z0 z1 z2 z3 f0 q0 q1 q2 q3 g0
     obtain⟨z0,z1,z2,z3⟩:=hz3.cells
     have f0:=zAE hz3
     have his3:=hz3.is
     obtain⟨q0,q1,q2,q3⟩:=hc3.cells
     have g0:=zAE hc3
     obtain⟨x0,x1,x2,x3,x4,x5,x6⟩:=hx.cells
     have hl3:=hb3.size
     have hlx:=hbe.size
     have hls:=hb0.size
     have h4:w.heap.size<w3.heap.size:=by omega
     have h5:wq.heap.size<w3.heap.size:=by omega
     have HC3:=zPf hc3
     have HZ3:=zPf hz3
     have hl2:=hb1.size
     clear hc3 hz3 hf hbx
     generalize w2.heap.size=b9 at*
     cases fa with
     |some f=>
      obtain⟨fe,fp⟩:=f
      have HE:Hid (zAs L at0= .error (fe,fp)):=by
       simp only[Hid]
       rw[HB.out,HS.out]
       simp[zA1,HT.out,e2]
      obtain⟨fb,rfl,hfge,hflt,hfc0,hfc1⟩:=hfx
      have hne:w.heap.size≠fb:=by omega
      go_wp2_with fail
      refine zAA (X:=(some w.heap.size)) 12 [([0,1,2,3,4,5,6,7,8],9)] [10,11] (by kernel_rfl) (by kernel_rfl) rfl (fun _ _ _ _ _ h=>h) ?_
      simp only[zAI,zAC,zAF,zAD,zAB,List.getD_cons_zero,List.getD_cons_succ,List.drop_succ_cons,List.drop_nil]
      repeat (go_big_quiet_step (fail))
      refine wpQuiet_nil ?_
      go_wp2_with fail
      refine⟨(((zAJ.of_setCell _).trans (zAJ.of_setCell _)).trans (zAJ.of_setCell _)).trans (zAJ.of_setCell _),?_⟩
      repeat (go_big_quiet_step (fail))
      refine wpQuiet_nil ?_
      go_wp2_with fail
      rw[zBy]
      rw[HE.out]
      exact zHR Tryz.results154 rfl rfl rfl rfl his3 (zPg _ _).drew rfl (hbw.trans (hbe3.mono hls)) (zPh _)
     |none=>
      have hv:v= .pointer none:=hfx
      subst hv
      clear hfx
      obtain⟨hn3,hn4⟩:=zCO HT.out h2.m.u
      have HS2:Hid (zA1 L at0 (L.length+2) Cls.zero i0 true=zA1 L at0 kk (c.or a.set) a.next false):=by
       simp only[Hid]
       rw[HS.out]
       simp[zA1,HT.out,e2]
      have hne:wq.heap.size≠b9:=by omega
      go_wp2_with fail
      refine zAA (X:=(some wq.heap.size)) 8 [([1,2,4,5],0),([],3),([],6)] [7] (by kernel_rfl) (by kernel_rfl) rfl (fun _ _ _ _ _ h=>h) ?_
      simp only[zAI,zAC,zAF,zAD,zAB,List.getD_cons_zero,List.getD_cons_succ,List.drop_succ_cons,List.drop_nil]
      repeat (go_big_quiet_step (fail))
      refine wpQuiet_nil ?_
      go_wp2_with fail
      refine⟨zAJ.refl _,?_⟩
      repeat (go_big_quiet_step (fail))
      refine wpQuiet_nil ?_
      go_wp2_with fail
      refine(zCd c a.set _).mono ?_;rintro e w4 ⟨rfl,hb4⟩
      have hkp:=zAJ.of_below (X:=some wq.heap.size) hb4
      replace hb4:Below w3.heap.size w3 w4:=Below.trans (zPg _ _).drew hb4
      have hc4:=HC3.out.below hb4
      clear q0 q1 q2 q3 g0
      obtain⟨q0,q1,q2,q3⟩:=hc4.cells
      have g0:=zAE hc4
      have HC4:=zPf hc4
      clear hc4
      go_wp2_with fail
      refine⟨hkp,?_⟩
      clear hkp
      repeat (go_big_quiet_step (fail))
      refine wpQuiet_nil ?_
      go_wp2_with fail
      refine⟨(((zAJ.of_setCell _).trans (zAJ.of_setCell _)).trans (zAJ.of_setCell _)).trans (zAJ.of_setCell _),?_⟩
      repeat (go_big_quiet_step (fail))
      refine wpQuiet_nil ?_
      go_wp2_with fail
      go_roundw
      case rel=>exact⟨kk,a.next,c.or a.set,false,rfl,rfl,hn4,by omega,by omega,HS2,zAu HC4.out (c.or a.set),(hbe3.trans (hb4.mono (by omega))).trans (zBC (zPh _) _)⟩
      case measure=>simp[intOf];omega
    |true=>
     go_wp2_with fail
     refine(zAK h2 n 93 rfl rfl).mono ?_;rintro e ww ⟨rfl,rfl⟩
     go_wp2_with fail
     have HE:Hid (zAs L at0= .ok (c,n+1)):=by
      obtain⟨kk,rfl⟩: ∃m,k=m+1:=⟨k - 1,by omega⟩
      simp only[Hid]
      rw[HB.out,HS.out]
      simp[zA1,e2]
     go_wp2_with fail
     rw[zBy]
     rw[HE.out]
     exact zHR Tryz.results154 rfl rfl rfl rfl HZX.out.is (zPg _ _) (by simp[brV]) (hbw.trans (hbe.mono hls)) (zPh _)
 |true=>
  have hi0: ∃i0,i0=at0+2∧i0≤L.length:=⟨at0+2,rfl,by have:=zCC e1;omega⟩
  obtain⟨i0,hi0,hi1⟩:=hi0
  have HB:Hid (zAs L at0=match zA1 L at0 (L.length+2) Cls.zero i0 true with| .error f=> .error f| .ok (c,i)=> .ok (c.not,i+1)):=by
   simp only[Hid,zAs,e1,hi0]
   rfl
  go_wp2_with fail
  refine(zAK h1 at0 91 rfl rfl).mono ?_;rintro e ww ⟨rfl,rfl⟩
  go_wp2_with fail
  refine(zAK h1 (at0+1) 94 (by omega) rfl).mono ?_;rintro e ww ⟨rfl,rfl⟩
  go_wp2_with fail
  go_loopw [8,11] (fun i f wr=> ∃(k n:Nat) (c:Cls) (first:Bool),i= .int .i64 n∧f= .bool first∧n≤L.length∧i0≤n∧L.length+2≤k+n∧
    Hid (zA1 L at0 (L.length+2) Cls.zero i0 true=zA1 L at0 k c n first)∧zAc wr wq.heap.size c∧Below wq.heap.size wq wr) (fun i _ _=>L.length - (intOf i).toNat)
  case atStart=>exact⟨L.length+2,i0,Cls.zero,true,by rw[hi0];go_num,rfl,hi1,zPh _,by omega,rfl,zPs wq _,(by repeat (first|exact zPg _ _|assumption|refine zP8 ?_|refine zP6 ?_ (by first|(simp;done)|(simp;omega)|omega) _|refine zP7 ?_ (by first|(simp;done)|(simp;omega)|omega) _))⟩
  case round=>
   obtain⟨k,n,c,first,rfl,rfl,hn1,hn2,hk,HS,hc,hbe⟩:=hrel
   have h2:=h1.below hbe
   have hz2:=HZ.out.below hbe
   have hls:=hb0.size
   clear z0 z1 z2 z3 f0
   obtain⟨z0,z1,z2,z3⟩:=hz2.cells
   have f0:=zAE hz2
   obtain⟨q0,q1,q2,q3⟩:=hc.cells
   have g0:=zAE hc
   have hcl:=hc.lt
   have HC:=zPf hc
   have HZX:=zPf hz2
   clear hc hz2
   cases first with
   |true=>
    go_wp2_with fail
    refine(zF7 h2 n rfl (by omega) true).mono ?_;rintro e w2 ⟨v,rfl,hf,hb1⟩
    obtain⟨kk,rfl⟩: ∃m,k=m+1:=⟨k - 1,by omega⟩
    generalize hit:zAb L at0 n true=r at*
    obtain⟨a,fa⟩:=r
    have HT:=zPf hit
    clear hit
    simp only at hf
    go_upto_region 13 with fail
    have hx:zFq (w2.alloc (.cells #[.int .u64 a.set.w0.toNat,.int .u64 a.set.w1.toNat,.int .u64 a.set.w2.toNat,.int .u64 a.set.w3.toNat,.int .u8 (a.b:Nat),.bool a.fin,.int .i64 (a.next:Nat)] 253)) w2.heap.size a:=zPs w2 _
    have hbx:Below w2.heap.size w2 (w2.alloc (.cells #[.int .u64 a.set.w0.toNat,.int .u64 a.set.w1.toNat,.int .u64 a.set.w2.toNat,.int .u64 a.set.w3.toNat,.int .u8 (a.b:Nat),.bool a.fin,.int .i64 (a.next:Nat)] 253)):=(zPg _ _).alloc (zPh _) _
    have hsx:w2.heap.size<(w2.alloc (.cells #[.int .u64 a.set.w0.toNat,.int .u64 a.set.w1.toNat,.int .u64 a.set.w2.toNat,.int .u64 a.set.w3.toNat,.int .u8 (a.b:Nat),.bool a.fin,.int .i64 (a.next:Nat)] 253)).heap.size:=by simp
    revert hx hbx hsx
    generalize w2.alloc (.cells #[.int .u64 a.set.w0.toNat,.int .u64 a.set.w1.toNat,.int .u64 a.set.w2.toNat,.int .u64 a.set.w3.toNat,.int .u8 (a.b:Nat),.bool a.fin,.int .i64 (a.next:Nat)] 253)=w3
    intro hx hbx hsx
    have hb3:Below wr.heap.size wr w3:=hb1.trans (hbx.mono hb1.size)
    have hfx:=hf.below hbx
    have hbe3:=hbe.trans (hb3.mono hbe.size)
    have hc3:=HC.out.below hb3
    have hz3:=HZ.out.below hbe3
    clear z0 z1 z2 z3 f0 q0 q1 q2 q3 g0
    obtain⟨z0,z1,z2,z3⟩:=hz3.cells
    have f0:=zAE hz3
    have his3:=hz3.is
    obtain⟨q0,q1,q2,q3⟩:=hc3.cells
    have g0:=zAE hc3
    obtain⟨x0,x1,x2,x3,x4,x5,x6⟩:=hx.cells
    have hl3:=hb3.size
    have hlx:=hbe.size
    have hls:=hb0.size
    have h4:w.heap.size<w3.heap.size:=by omega
    have h5:wq.heap.size<w3.heap.size:=by omega
    have HC3:=zPf hc3
    have HZ3:=zPf hz3
    have hl2:=hb1.size
    clear hc3 hz3 hf hbx
    generalize w2.heap.size=b9 at*
    cases fa with
    |some f=>
     obtain⟨fe,fp⟩:=f
     have HE:Hid (zAs L at0= .error (fe,fp)):=by
      simp only[Hid]
      rw[HB.out,HS.out]
      simp[zA1,HT.out]
     obtain⟨fb,rfl,hfge,hflt,hfc0,hfc1⟩:=hfx
     have hne:w.heap.size≠fb:=by omega
     go_wp2_with fail
     refine zAA (X:=(some w.heap.size)) 12 [([0,1,2,3,4,5,6,7,8],9)] [10,11] (by kernel_rfl) (by kernel_rfl) rfl (fun _ _ _ _ _ h=>h) ?_
     simp only[zAI,zAC,zAF,zAD,zAB,List.getD_cons_zero,List.getD_cons_succ,List.drop_succ_cons,List.drop_nil]
     repeat (go_big_quiet_step (fail))
     refine wpQuiet_nil ?_
     go_wp2_with fail
     refine⟨(((zAJ.of_setCell _).trans (zAJ.of_setCell _)).trans (zAJ.of_setCell _)).trans (zAJ.of_setCell _),?_⟩
     repeat (go_big_quiet_step (fail))
     refine wpQuiet_nil ?_
     go_wp2_with fail
     rw[zBy]
     rw[HE.out]
     exact zHR Tryz.results154 rfl rfl rfl rfl his3 (zPg _ _).drew rfl (hbw.trans (hbe3.mono hls)) (zPh _)
    |none=>
     have hv:v= .pointer none:=hfx
     subst hv
     clear hfx
     obtain⟨hn3,hn4⟩:=zCO HT.out h2.m.u
     have HS2:Hid (zA1 L at0 (L.length+2) Cls.zero i0 true=zA1 L at0 kk (c.or a.set) a.next false):=by
      simp only[Hid]
      rw[HS.out]
      simp[zA1,HT.out]
     have hne:wq.heap.size≠b9:=by omega
     go_wp2_with fail
     refine zAA (X:=(some wq.heap.size)) 8 [([1,2,4,5],0),([],3),([],6)] [7] (by kernel_rfl) (by kernel_rfl) rfl (fun _ _ _ _ _ h=>h) ?_
     simp only[zAI,zAC,zAF,zAD,zAB,List.getD_cons_zero,List.getD_cons_succ,List.drop_succ_cons,List.drop_nil]
     repeat (go_big_quiet_step (fail))
     refine wpQuiet_nil ?_
     go_wp2_with fail
     refine⟨zAJ.refl _,?_⟩
     repeat (go_big_quiet_step (fail))
     refine wpQuiet_nil ?_
     go_wp2_with fail
     refine(zCd c a.set _).mono ?_;rintro e w4 ⟨rfl,hb4⟩
     have hkp:=zAJ.of_below (X:=some wq.heap.size) hb4
     replace hb4:Below w3.heap.size w3 w4:=Below.trans (zPg _ _).drew hb4
     have hc4:=HC3.out.below hb4
     clear q0 q1 q2 q3 g0
     obtain⟨q0,q1,q2,q3⟩:=hc4.cells
     have g0:=zAE hc4
     have HC4:=zPf hc4
     clear hc4
     go_wp2_with fail
     refine⟨hkp,?_⟩
     clear hkp
     repeat (go_big_quiet_step (fail))
     refine wpQuiet_nil ?_
     go_wp2_with fail
     refine⟨(((zAJ.of_setCell _).trans (zAJ.of_setCell _)).trans (zAJ.of_setCell _)).trans (zAJ.of_setCell _),?_⟩
     repeat (go_big_quiet_step (fail))
     refine wpQuiet_nil ?_
     go_wp2_with fail
     go_roundw
     case rel=>exact⟨kk,a.next,c.or a.set,false,rfl,rfl,hn4,by omega,by omega,HS2,zAu HC4.out (c.or a.set),(hbe3.trans (hb4.mono (by omega))).trans (zBC (zPh _) _)⟩
     case measure=>simp[intOf];omega
   |false=>
    cases e2:signAt L n 93 with
    |false=>
     go_wp2_with fail
     refine(zAK h2 n 93 rfl rfl).mono ?_;rintro e ww ⟨rfl,rfl⟩
     go_wp2_with fail
     refine(zF7 h2 n rfl (by omega) false).mono ?_;rintro e w2 ⟨v,rfl,hf,hb1⟩
     obtain⟨kk,rfl⟩: ∃m,k=m+1:=⟨k - 1,by omega⟩
     generalize hit:zAb L at0 n false=r at*
     obtain⟨a,fa⟩:=r
     have HT:=zPf hit
     clear hit
     simp only at hf
     go_upto_region 13 with fail
     have hx:zFq (w2.alloc (.cells #[.int .u64 a.set.w0.toNat,.int .u64 a.set.w1.toNat,.int .u64 a.set.w2.toNat,.int .u64 a.set.w3.toNat,.int .u8 (a.b:Nat),.bool a.fin,.int .i64 (a.next:Nat)] 253)) w2.heap.size a:=zPs w2 _
     have hbx:Below w2.heap.size w2 (w2.alloc (.cells #[.int .u64 a.set.w0.toNat,.int .u64 a.set.w1.toNat,.int .u64 a.set.w2.toNat,.int .u64 a.set.w3.toNat,.int .u8 (a.b:Nat),.bool a.fin,.int .i64 (a.next:Nat)] 253)):=(zPg _ _).alloc (zPh _) _
     have hsx:w2.heap.size<(w2.alloc (.cells #[.int .u64 a.set.w0.toNat,.int .u64 a.set.w1.toNat,.int .u64 a.set.w2.toNat,.int .u64 a.set.w3.toNat,.int .u8 (a.b:Nat),.bool a.fin,.int .i64 (a.next:Nat)] 253)).heap.size:=by simp
     revert hx hbx hsx
     generalize w2.alloc (.cells #[.int .u64 a.set.w0.toNat,.int .u64 a.set.w1.toNat,.int .u64 a.set.w2.toNat,.int .u64 a.set.w3.toNat,.int .u8 (a.b:Nat),.bool a.fin,.int .i64 (a.next:Nat)] 253)=w3
     intro hx hbx hsx
     have hb3:Below wr.heap.size wr w3:=hb1.trans (hbx.mono hb1.size)
     have hfx:=hf.below hbx
     have hbe3:=hbe.trans (hb3.mono hbe.size)
     have hc3:=HC.out.below hb3
     have hz3:=HZ.out.below hbe3
     clear z0 z1 z2 z3 f0 q0 q1 q2 q3 g0
     obtain⟨z0,z1,z2,z3⟩:=hz3.cells
     have f0:=zAE hz3
     have his3:=hz3.is
     obtain⟨q0,q1,q2,q3⟩:=hc3.cells
     have g0:=zAE hc3
     obtain⟨x0,x1,x2,x3,x4,x5,x6⟩:=hx.cells
     have hl3:=hb3.size
     have hlx:=hbe.size
     have hls:=hb0.size
     have h4:w.heap.size<w3.heap.size:=by omega
     have h5:wq.heap.size<w3.heap.size:=by omega
     have HC3:=zPf hc3
     have HZ3:=zPf hz3
     have hl2:=hb1.size
     clear hc3 hz3 hf hbx
     generalize w2.heap.size=b9 at*
     cases fa with
     |some f=>
      obtain⟨fe,fp⟩:=f
      have HE:Hid (zAs L at0= .error (fe,fp)):=by
       simp only[Hid]
       rw[HB.out,HS.out]
       simp[zA1,HT.out,e2]
      obtain⟨fb,rfl,hfge,hflt,hfc0,hfc1⟩:=hfx
      have hne:w.heap.size≠fb:=by omega
      go_wp2_with fail
      refine zAA (X:=(some w.heap.size)) 12 [([0,1,2,3,4,5,6,7,8],9)] [10,11] (by kernel_rfl) (by kernel_rfl) rfl (fun _ _ _ _ _ h=>h) ?_
      simp only[zAI,zAC,zAF,zAD,zAB,List.getD_cons_zero,List.getD_cons_succ,List.drop_succ_cons,List.drop_nil]
      repeat (go_big_quiet_step (fail))
      refine wpQuiet_nil ?_
      go_wp2_with fail
      refine⟨(((zAJ.of_setCell _).trans (zAJ.of_setCell _)).trans (zAJ.of_setCell _)).trans (zAJ.of_setCell _),?_⟩
      repeat (go_big_quiet_step (fail))
      refine wpQuiet_nil ?_
      go_wp2_with fail
      rw[zBy]
      rw[HE.out]
      exact zHR Tryz.results154 rfl rfl rfl rfl his3 (zPg _ _).drew rfl (hbw.trans (hbe3.mono hls)) (zPh _)
     |none=>
      have hv:v= .pointer none:=hfx
      subst hv
      clear hfx
      obtain⟨hn3,hn4⟩:=zCO HT.out h2.m.u
      have HS2:Hid (zA1 L at0 (L.length+2) Cls.zero i0 true=zA1 L at0 kk (c.or a.set) a.next false):=by
       simp only[Hid]
       rw[HS.out]
       simp[zA1,HT.out,e2]
      have hne:wq.heap.size≠b9:=by omega
      go_wp2_with fail
      refine zAA (X:=(some wq.heap.size)) 8 [([1,2,4,5],0),([],3),([],6)] [7] (by kernel_rfl) (by kernel_rfl) rfl (fun _ _ _ _ _ h=>h) ?_
      simp only[zAI,zAC,zAF,zAD,zAB,List.getD_cons_zero,List.getD_cons_succ,List.drop_succ_cons,List.drop_nil]
      repeat (go_big_quiet_step (fail))
      refine wpQuiet_nil ?_
      go_wp2_with fail
      refine⟨zAJ.refl _,?_⟩
      repeat (go_big_quiet_step (fail))
      refine wpQuiet_nil ?_
      go_wp2_with fail
      refine(zCd c a.set _).mono ?_;rintro e w4 ⟨rfl,hb4⟩
      have hkp:=zAJ.of_below (X:=some wq.heap.size) hb4
      replace hb4:Below w3.heap.size w3 w4:=Below.trans (zPg _ _).drew hb4
      have hc4:=HC3.out.below hb4
      clear q0 q1 q2 q3 g0
      obtain⟨q0,q1,q2,q3⟩:=hc4.cells
      have g0:=zAE hc4
      have HC4:=zPf hc4
      clear hc4
      go_wp2_with fail
      refine⟨hkp,?_⟩
      clear hkp
      repeat (go_big_quiet_step (fail))
      refine wpQuiet_nil ?_
      go_wp2_with fail
      refine⟨(((zAJ.of_setCell _).trans (zAJ.of_setCell _)).trans (zAJ.of_setCell _)).trans (zAJ.of_setCell _),?_⟩
      repeat (go_big_quiet_step (fail))
      refine wpQuiet_nil ?_
      go_wp2_with fail
      go_roundw
      case rel=>exact⟨kk,a.next,c.or a.set,false,rfl,rfl,hn4,by omega,by omega,HS2,zAu HC4.out (c.or a.set),(hbe3.trans (hb4.mono (by omega))).trans (zBC (zPh _) _)⟩
      case measure=>simp[intOf];omega
    |true=>
     go_wp2_with fail
     refine(zAK h2 n 93 rfl rfl).mono ?_;rintro e ww ⟨rfl,rfl⟩
     go_wp2_with fail
     have HE:Hid (zAs L at0= .ok (c.not,n+1)):=by
      obtain⟨kk,rfl⟩: ∃m,k=m+1:=⟨k - 1,by omega⟩
      simp only[Hid]
      rw[HB.out,HS.out]
      simp[zA1,e2]
     go_wp2_with fail
     refine(zES c _).mono ?_;rintro e w4 ⟨rfl,hb4⟩
     have hc4:=HC.out.below hb4
     have hz4:=HZX.out.below hb4
     clear z0 z1 z2 z3 f0 q0 q1 q2 q3 g0
     obtain⟨q0,q1,q2,q3⟩:=hc4.cells
     have g0:=zAE hc4
     obtain⟨z0,z1,z2,z3⟩:=hz4.cells
     have f0:=zAE hz4
     have HZ4:=zPf hz4
     have hlx:=hbe.size
     have hbe4:=hbe.trans (hb4.mono hbe.size)
     clear hz4 hc4
     go_wp2_with fail
     rw[zBy]
     rw[zBy]
     rw[HE.out]
     have hzs:zAc (zG4 w4 wq.heap.size c.not.w0.toNat c.not.w1.toNat c.not.w2.toNat c.not.w3.toNat) w.heap.size Cls.zero:=(zJZ (by omega) _ _ _ _).trans HZ4.out
     exact zHR Tryz.results154 rfl rfl rfl rfl hzs.is (zPg _ _) (by simp[brV]) ((hbw.trans (hbe4.mono hls)).trans (zCx hls _ _ _ _)) (zPh _)
end
section
open Go.RowKit
theorem zC8 (a b:Int) {w:World} (ha:0≤a) (ha2:a≤1000) (hb:0≤b) (hb2:b≤8589934592):
  Calls Tryz.prog 86 #[.int .i64 a,.int .i64 b] w fun e w'=>e= .returned (.int .i64 (1048576*a+b+1))∧w=w':=by
 go_enter Tryz.func86,Tryz.ntmps86
 go_wp2_with fail
 go_ret
 exact⟨rfl,rfl⟩
end
end Go.Proofs.YtfjbnpdffillbaaGreatDoor
