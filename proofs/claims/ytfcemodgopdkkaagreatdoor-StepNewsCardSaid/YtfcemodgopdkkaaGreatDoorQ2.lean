/- Parts: Wb Wa Own Ra. -/
import Derived.Test.YtfcemodgopdkkaaGreatDoorQ0
import Derived.Test.YtfcemodgopdkkaaGreatDoorQ1
import Derived.Lib.Hide
import Derived.LoopN
import Derived.Deep.DeepCutAuto
import Derived.Deep.RegionHeld3
import Derived.Maps.AppendAt
import Derived.Laws.AppendOwnNone
import Derived.Laws.BytesArg
namespace Go.Proofs.YtfcemodgopdkkaaGreatDoor
section
open Go.RowKit
@[go_sem] theorem zLn (a b:BitVec 64):bits .or .u64 (a.toNat:Int) (b.toNat:Int)=((orw a b).toNat:Int):=by
 rw[u64_or_nat _ _ a.isLt b.isLt,orw,BitVec.toNat_or]
@[go_sem] theorem zLk (a b:BitVec 64):bits .and .u64 (a.toNat:Int) (b.toNat:Int)=((zKW a b).toNat:Int):=by
 rw[u64_and_nat _ _ a.isLt b.isLt,zKW,BitVec.toNat_and]
@[go_sem] theorem zLa (a:BitVec 64):bits .xor .u64 IntKind.u64.max (a.toNat:Int)=((zKn a).toNat:Int):=by
 have h:bits .xor .u64 ((18446744073709551615:Nat):Int) (a.toNat:Int)=((18446744073709551615 ^^^ a.toNat:Nat):Int):=u64_xor_nat _ _ (by omega) a.isLt
 have e:IntKind.u64.max=((18446744073709551615:Nat):Int):=rfl
 rw[e,h]
 congr 1
theorem zAm {w:World} {B T:Nat} {cs:Array Value} (h:w.heap[B]?=some (.cells cs T (0,0))) (j:Nat):w.frozen? ⟨B,j,none⟩=false:=by
 simp[World.frozen?,h]
end
section
open Go.RowKit
def zAs (s:ByteArray):List Nat:=s.data.toList.map (·.toNat)
theorem zAz (s:ByteArray):(zAs s).length=s.size:=by simp[zAs]
theorem zC4 (s:ByteArray) (k:Nat) (h:k<s.size):(zAs s).getD k 0=s[k].toNat:=by
 have h':k<s.data.size:=h
 simp only[zAs,List.getD_eq_getElem?_getD,List.getElem?_map,Array.getElem?_toList]
 rw[Array.getElem?_eq_getElem h'];rfl
theorem zAE {a b:Bool} (h:a=b):Ending.returned (.bool a)= .returned (.bool b):=by rw[h]
end
section
open Go.RowKit
structure ElT (P:Program) (t e:TypeId) (size bytes:Nat) (z:Value):Prop where
 ht:P.underlying t=some (.slice e)
 hi:(P.info? e).map (fun i=>(i.zero,i.size,i.bytes))=some (some z,size,bytes)
 hzs:z.cells.size=size
 hsz:0<size
def Src (w:World) (v:Value) (m:Nat) (news:List Value):Prop:=
 (v= .slice none 0 0∧m=0∧news=[])∨ ∃a c,v= .slice (some a) m c∧ ∀j u,news[j]?=some u→w.cell? (a.add j)=some u
theorem Src.nil (w:World):Src w (.slice none 0 0) 0 []:= .inl ⟨rfl,rfl,rfl⟩
theorem Src.own {w:World} {base e size n:Nat} {v:Value} {xs:List Value} (h:w.ownsRow base e size v n xs):Src w v n xs:=by
 rcases h.2 with ⟨rfl,rfl⟩|⟨g,cap,cur,rfl,hb,hg,rest⟩
 ·refine .inl ⟨rfl,rfl,zMg (by simpa using h.1)⟩
 ·exact .inr ⟨_,_,rfl,h.cells rfl⟩
theorem Src.new (w:World) (cs:List Value) (e m c:Nat):Src (w.alloc (.cells cs.toArray e)) (.slice (some ⟨w.heap.size,0,none⟩) m c) m cs:=by
 refine .inr ⟨_,_,rfl,fun j u hu=>?_⟩
 have hadd:(⟨w.heap.size,0,none⟩:Addr).add j=⟨w.heap.size,j,none⟩:=by unfold Addr.add;split<;>simp_all
 rw[hadd,zMN _ _ j _ e (0,0) (zML w _)]
 simpa using hu
theorem zAN {P:Program} {w:World} {ops:Array Oper} {rest:List Oper} {o:Oper} {a:Act} {Q:Exit→Act→World→Prop} {t e:TypeId} {size bytes:Nat} {z:Value} (E:ElT P t e size bytes z)
  (hgd:o.guard=none) (s x:Operand) (ho:o.op= .call { callee:= .builtin .append,args:= #[s,x],argTypes:= #[t,t] })
  (base:Nat) {v sv:Value} {n m:Nat} {xs news:List Value} (hs:a.eval s=v) (hown:w.ownsRow base e size v n xs) (hx:a.eval x=sv) (hsrc:Src w sv m news)
  (hl:news.length=m*size) (h1: ∀u∈news,u.oneCell'=true) (h63:n+m≤maxLen) (hbytes:(n+m)*bytes≤140737488355328) (hbase:base≤w.heap.size)
  (h: ∀v' w',w'.ownsRow base e size v' (n+m) (xs++news)→w.grownBy w' v.ownBlock→(v'.ownBlock=v.ownBlock∨v'.ownBlock=some w.heap.size)→wpList P ops Q rest (a.put o.dst v') w'):
  wpList P ops Q (o::rest) a w:=by
 obtain⟨i,hi,hz0,hz1,hz2⟩:=info_parts E.hi
 rcases hsrc with ⟨rfl,rfl,rfl⟩|⟨ad,c,rfl,hc⟩
 ·refine wpList_append_own_none hgd s x t ho base e i size E.ht hi v n xs hs hown hx ?_
  have:=h v w (by simpa using hown) (World.grownBy.refl w _) (.inl rfl)
  exact this
 ·exact wpList_append_own_at w hgd s x t ho base e i z size bytes E.ht hi hz0 hz1 hz2 E.hzs E.hsz v n xs hs hown ad m c news hx hl hc h1 h63 hbytes hbase (fun v' w' h2 h3 _ h5=>h v' w' h2 h3 h5)
theorem zK7:ElT Tryz.prog 46 5 1 1 (.int .u8 0):=⟨Tryz.underlying46,by kernel_rfl,rfl,by decide⟩
def u8s (l:List Nat):List Value:=l.map fun b=> .int .u8 (b:Nat)
theorem zB8 (l:List Nat):(u8s l).length=l.length:=by simp[u8s]
theorem zD9 (l:List Nat): ∀u∈u8s l,u.oneCell'=true:=by
 intro u hu
 simp only[u8s,List.mem_map]at hu
 obtain⟨b,_,rfl⟩:=hu
 rfl
theorem zB5 (l:List Nat) (h: ∀b∈l,b<256):zAs (strOfNums (l.map fun b:Nat=>(b:Int)))=l:=by
 simp only[zAs,strOfNums_data,List.map_map]
 conv=>rhs;rw[←List.map_id l]
 refine List.map_congr_left fun b hb=>?_
 have:=h b hb
 simp[Function.comp]
 omega
end
section
open Go.RowKit
def zAY (x:Nd):Array Value:= #[.int .i8 x.op,.int .u64 x.set.w0.toNat,.int .u64 x.set.w1.toNat,.int .u64 x.set.w2.toNat,.int .u64 x.set.w3.toNat,.int .i64 x.n,.int .i64 x.min,.int .i64 x.max,.int .i64 x.kids]
abbrev ndV (x:Nd):Value:= .agg #[.int .i8 x.op,.int .u64 x.set.w0.toNat,.int .u64 x.set.w1.toNat,.int .u64 x.set.w2.toNat,.int .u64 x.set.w3.toNat,.int .i64 x.n,.int .i64 x.min,.int .i64 x.max,.int .i64 x.kids]
def zJW (w:World) (B:Nat):Prop:= ∃cs:Array Value,cs.size=9∧w.heap[B]?=some (.cells cs 127 (0,0))
theorem zJW.lt {w:World} {B:Nat} (h:zJW w B):B<w.heap.size:=by
 obtain⟨_,_,h⟩:=h
 exact(zMG.1 h).1
theorem zBC {fn:Func} {p:Tmp} {ty:TypeId} (h:fn.results= #[.cell p ty]) (tmps:Array Value) (P:Program) (w:World):
  (results fn tmps).run P w=((asAddr (tmps.getD p undef)).run P w).andThen fun a w₁=>(loadVar ty a).run P w₁:=by
 simp only[results,h]
 simp[Sem.run_bind,Result.andThen]
theorem zJW.below {w w':World} {B:Nat} (h:zJW w B) (hb:Below w.heap.size w w'):zJW w' B:=by
 obtain⟨cs,hs,hc⟩:=h
 exact⟨cs,hs,(hb.block B (zJW.lt ⟨cs,hs,hc⟩)).trans hc⟩
theorem zJW.cells {w:World} {B:Nat} (h:zJW w B): ∃a0 a1 a2 a3 a4 a5 a6 a7 a8,w.cell? ⟨B,0,none⟩=some a0∧w.cell? ⟨B,1,none⟩=some a1∧w.cell? ⟨B,2,none⟩=some a2∧w.cell? ⟨B,3,none⟩=some a3∧w.cell? ⟨B,4,none⟩=some a4∧w.cell? ⟨B,5,none⟩=some a5∧w.cell? ⟨B,6,none⟩=some a6∧w.cell? ⟨B,7,none⟩=some a7∧w.cell? ⟨B,8,none⟩=some a8∧(∀o,w.frozen? ⟨B,o,none⟩=false):=by
 obtain⟨cs,hs,h⟩:=h
 obtain⟨a0,a1,a2,a3,a4,a5,a6,a7,a8,rfl⟩: ∃a0 a1 a2 a3 a4 a5 a6 a7 a8,cs= #[a0,a1,a2,a3,a4,a5,a6,a7,a8]:=by
  obtain⟨l⟩:=cs
  match l,hs with
  |[a0,a1,a2,a3,a4,a5,a6,a7,a8],_=>exact⟨a0,a1,a2,a3,a4,a5,a6,a7,a8,rfl⟩
 have hc: ∀j,w.cell? ⟨B,j,none⟩=(#[a0,a1,a2,a3,a4,a5,a6,a7,a8]:Array Value)[j]?:=fun j=>zMN w B j _ _ (0,0) h
 exact⟨a0,a1,a2,a3,a4,a5,a6,a7,a8,hc 0,hc 1,hc 2,hc 3,hc 4,hc 5,hc 6,hc 7,hc 8,zAm h⟩
end
end Go.Proofs.YtfcemodgopdkkaaGreatDoor
