/- Parts: Ym Yn. -/
import Derived.Test.YtmaagpbjahjmhaaGreatDoorQ17
import Derived.Test.YtmaagpbjahjmhaaGreatDoorQ0
import Derived.LaidEql
import Derived.Stop.Asserts
import Derived.RowKitTokens
import Derived.Defers
import Derived.Recover
import Derived.Laws.EntriesVeiled
set_option maxHeartbeats 3200000
set_option maxRecDepth 100000
namespace Go.Proofs.YtmaagpbjahjmhaaGreatDoor
section
open Go.RowKit Go.Extern.Stop Go.Stop Go.Extern
theorem zKP (v:Value) (w:World):(Extern.ReflectliteType.typeOf #[.iface 324 v]).run Tryz.prog w= .ok (.iface 192 (.agg #[.pointer (some ⟨8,324,none⟩)])) w:=by kernel_rfl
def zQJ:Array Value→Sem Value:=Extern.ReflectliteType.method fun t=>do Extern.Rtype.noPackHeld "Comparable" t;pure (.bool (←typeInfo t).comparable)
theorem zFN (w:World):(zQJ #[.agg #[.pointer (some ⟨8,324,none⟩)]]).run Tryz.prog w= .ok (.bool true) w:=by kernel_rfl
theorem zOi:(Tryz.prog.info? 324).map (·.comparable)=some true:=by kernel_rfl
theorem zOh:(Tryz.prog.info? 348).map (·.size)=some 1:=by kernel_rfl
theorem zPn (v:Value) (xT:TypeId) (w:World):(Instr.typeAssert (.iface 78 v) xT 194 true).run Tryz.prog w= .ok (.tuple #[.nilIface,.bool false]) w:=run_typeAssert_lacksB Tryz.underlying194 (by kernel_rfl) (by kernel_rfl) v xT w
theorem zG4 (v:Value) (xT:TypeId) (w:World):(Instr.typeAssert (.iface 78 v) xT 197 true).run Tryz.prog w= .ok (.tuple #[.iface 78 v,.bool true]) w:=run_typeAssert_hasB Tryz.underlying197 (by kernel_rfl) v xT w
theorem zQD (v:Value) (xT:TypeId) (w:World):(Instr.typeAssert (.iface 324 v) xT 194 true).run Tryz.prog w= .ok (.tuple #[.nilIface,.bool false]) w:=run_typeAssert_lacksB Tryz.underlying194 (by kernel_rfl) (by kernel_rfl) v xT w
theorem zMR (v:Value) (xT:TypeId) (w:World):(Instr.typeAssert (.iface 324 v) xT 197 true).run Tryz.prog w= .ok (.tuple #[.nilIface,.bool false]) w:=run_typeAssert_lacksB Tryz.underlying197 (by kernel_rfl) (by kernel_rfl) v xT w
theorem zLI (v:Value) (xT:TypeId) (w:World):(Instr.typeAssert (.iface 324 v) xT 199 true).run Tryz.prog w= .ok (.tuple #[.nilIface,.bool false]) w:=run_typeAssert_lacksB Tryz.underlying199 (by kernel_rfl) (by kernel_rfl) v xT w
theorem zQX (n:Nat) (v:Value) (w:World):(Go.method (n+1) 192 v "Comparable").run Tryz.prog w= .ok (305,v) w:=by kernel_rfl
theorem zQW (n:Nat) (v:Value) (w:World):(Go.method (n+1) 78 v "Unwrap").run Tryz.prog w= .ok (301,v) w:=by kernel_rfl
section
variable {w:World} {E:PE} {l:List Value} {er i:Nat}
theorem zFk {fb:Nat} {v:Value} (h1:w.cell? ⟨fb,2,none⟩=some (.iface 324 v)):
  Calls Tryz.prog 301 #[.pointer (some ⟨fb,0,none⟩)] w fun e w'=>e= .returned (.iface 324 v)∧w=w':=by
 go_enter Tryz.func301,Tryz.ntmps301
 go_wp2_with fail
 go_ret
 exact⟨rfl,rfl⟩
theorem zMf {fb:Nat} {b:Addr} (h1:w.cell? ⟨fb,2,none⟩=some (.iface 324 (.pointer (some b)))):
  Calls Tryz.prog 86 #[.iface 78 (.pointer (some ⟨fb,0,none⟩)),.iface 324 (.pointer (some b)),.bool true] w fun e w'=>e= .returned (.bool true)∧w=w':=by
 obtain⟨i,hi,hcmp⟩:=Option.map_eq_some_iff.1 zOi
 obtain⟨j,hj,hjs⟩:=Option.map_eq_some_iff.1 zOh
 have mU:=zQW
 have nW:=zPn
 have uW:=zG4
 have heq:=run_eql_iface_ptr_same (P:=Tryz.prog) w b Tryz.underlying81 Tryz.underlying324 hi hcmp hj
 have hty:=run_eql_iface_types (P:=Tryz.prog) 78 324 (.pointer (some ⟨fb,0,none⟩)) (.pointer (some b)) Tryz.underlying81 (by decide) w
 go_enter Tryz.func86,Tryz.ntmps86
 go_wp2_with fail
 refine wp_loop_rounds 2 ?_
 rw[rounds_succ]
 go_wp2_with fail
 refine(zFk h1).mono ?_;rintro e w1 ⟨rfl,rfl⟩
 go_wp2_with fail
 rw[rounds_succ]
 go_wp2_with fail
 go_ret
 exact⟨rfl,rfl⟩
theorem zPI {fb:Nat} {b:Addr} (h1:w.cell? ⟨fb,2,none⟩=some (.iface 324 (.pointer (some b)))):
  Calls Tryz.prog 30 #[.iface 78 (.pointer (some ⟨fb,0,none⟩)),.iface 324 (.pointer (some b))] w fun e w'=>e= .returned (.bool true)∧w=w':=by
 have HX:=zQr (zMf h1)
 have h8:= @run_callFunc_extern Tryz.prog 85 _ Extern.ReflectliteType.typeOf Tryz.func85 (by kernel_rfl) (by kernel_rfl) (by kernel_rfl) (by kernel_rfl)
 have h32:= @run_callFunc_extern Tryz.prog 305 _ zQJ Tryz.func305 (by kernel_rfl) (by kernel_rfl) (by kernel_rfl) (by kernel_rfl)
 have tT:=zKP
 have cT:=zFN
 have mR:=zQX
 clear h1
 go_enter Tryz.func30,Tryz.ntmps30
 go_wp2_with fail
 refine HX.out.mono ?_;rintro e w1 ⟨rfl,rfl⟩
 go_wp2_with fail
 go_ret
 exact⟨rfl,rfl⟩
theorem zLQ {fb:Nat} {b:Addr} {z:Addr} {ca cb:Array Value} {ta tb:TypeId} (hne:z≠b) (ha:w.heap[z.block]?=some (.cells ca ta (0,0))) (hb:w.heap[b.block]?=some (.cells cb tb (0,0))) (h1:w.cell? ⟨fb,2,none⟩=some (.iface 324 (.pointer (some z)))):
  Calls Tryz.prog 86 #[.iface 78 (.pointer (some ⟨fb,0,none⟩)),.iface 324 (.pointer (some b)),.bool true] w fun e w'=>e= .returned (.bool false)∧w=w':=by
 obtain⟨i,hi,hcmp⟩:=Option.map_eq_some_iff.1 zOi
 obtain⟨j,hj,hjs⟩:=Option.map_eq_some_iff.1 zOh
 have mU:=zQW
 have nW:=zPn
 have uW:=zG4
 have nE:=zQD
 have uE:=zMR
 have vE:=zLI
 have heq:=run_eql_iface_ptr_other (P:=Tryz.prog) w Tryz.underlying81 Tryz.underlying324 hi hcmp hj (by rw[hjs];decide) hne ha hb
 have hty:=run_eql_iface_types (P:=Tryz.prog) 78 324 (.pointer (some ⟨fb,0,none⟩)) (.pointer (some b)) Tryz.underlying81 (by decide) w
 clear hne ha hb
 go_enter Tryz.func86,Tryz.ntmps86
 go_wp2_with fail
 refine wp_loop_rounds 2 ?_
 rw[rounds_succ]
 go_wp2_with fail
 refine(zFk h1).mono ?_;rintro e w1 ⟨rfl,rfl⟩
 go_wp2_with fail
 rw[rounds_succ]
 go_wp2_with fail
 go_ret
 exact⟨rfl,rfl⟩
theorem zN3 {fb:Nat} {b:Addr} {z:Addr} {ca cb:Array Value} {ta tb:TypeId} (hne:z≠b) (ha:w.heap[z.block]?=some (.cells ca ta (0,0))) (hb:w.heap[b.block]?=some (.cells cb tb (0,0))) (h1:w.cell? ⟨fb,2,none⟩=some (.iface 324 (.pointer (some z)))):
  Calls Tryz.prog 30 #[.iface 78 (.pointer (some ⟨fb,0,none⟩)),.iface 324 (.pointer (some b))] w fun e w'=>e= .returned (.bool false)∧w=w':=by
 have HX:=zQr (zLQ hne ha hb h1)
 have h8:= @run_callFunc_extern Tryz.prog 85 _ Extern.ReflectliteType.typeOf Tryz.func85 (by kernel_rfl) (by kernel_rfl) (by kernel_rfl) (by kernel_rfl)
 have h32:= @run_callFunc_extern Tryz.prog 305 _ zQJ Tryz.func305 (by kernel_rfl) (by kernel_rfl) (by kernel_rfl) (by kernel_rfl)
 have tT:=zKP
 have cT:=zFN
 have mR:=zQX
 clear h1
 clear hne ha hb
 go_enter Tryz.func30,Tryz.ntmps30
 go_wp2_with fail
 refine HX.out.mono ?_;rintro e w1 ⟨rfl,rfl⟩
 go_wp2_with fail
 go_ret
 exact⟨rfl,rfl⟩
end
end
section
open Go.RowKit
structure V4 (w:World) (b:Nat) (x y z u:Value):Prop where
 c4:w.cell? ⟨b,0,none⟩=some x
 c5:w.cell? ⟨b+1,0,none⟩=some y
 c6:w.cell? ⟨b+1+1,0,none⟩=some z
 c7:w.cell? ⟨b+1+1+1,0,none⟩=some u
 z4:w.frozen? ⟨b,0,none⟩=false
 z5:w.frozen? ⟨b+1,0,none⟩=false
 z6:w.frozen? ⟨b+1+1,0,none⟩=false
 z7:w.frozen? ⟨b+1+1+1,0,none⟩=false
section
variable {w w':World} {b:Nat} {x y z u:Value}
theorem V4.lt (h:V4 w b x y z u):b+1+1+1<w.heap.size:=zRO w _ h.c7
theorem V4.keep (h:V4 w b x y z u) (hb: ∀k,b≤k→k≤b+1+1+1→w'.heap[k]?=w.heap[k]?):V4 w' b x y z u:=
 have e4:=hb b (zQt _) (by omega)
 have e5:=hb (b+1) (by omega) (by omega)
 have e6:=hb (b+1+1) (by omega) (by omega)
 have e7:=hb (b+1+1+1) (by omega) (by omega)
 ⟨(zQv (w:=w) (a:=⟨b,0,none⟩) e4).trans h.c4,(zQv (w:=w) (a:=⟨b+1,0,none⟩) e5).trans h.c5,(zQv (w:=w) (a:=⟨b+1+1,0,none⟩) e6).trans h.c6,(zQv (w:=w) (a:=⟨b+1+1+1,0,none⟩) e7).trans h.c7,
  (zQw (w:=w) (a:=⟨b,0,none⟩) e4).trans h.z4,(zQw (w:=w) (a:=⟨b+1,0,none⟩) e5).trans h.z5,(zQw (w:=w) (a:=⟨b+1+1,0,none⟩) e6).trans h.z6,(zQw (w:=w) (a:=⟨b+1+1+1,0,none⟩) e7).trans h.z7⟩
theorem V4.set0 (h:V4 w b x y z u) (v:Value):V4 (w.setCell ⟨b,0,none⟩ v) b v y z u:=
 ⟨zRA _ _ _ h.c4,(zQ9 _ _ _ _ (by simp only[ne_eq,Addr.mk.injEq,not_and];omega)).trans h.c5,(zQ9 _ _ _ _ (by simp only[ne_eq,Addr.mk.injEq,not_and];omega)).trans h.c6,(zQ9 _ _ _ _ (by simp only[ne_eq,Addr.mk.injEq,not_and];omega)).trans h.c7,
  zAM _ _ _ _ h.z4,zAM _ _ _ _ h.z5,zAM _ _ _ _ h.z6,zAM _ _ _ _ h.z7⟩
theorem V4.set1 (h:V4 w b x y z u) (v:Value):V4 (w.setCell ⟨b+1,0,none⟩ v) b x v z u:=
 ⟨(zQ9 _ _ _ _ (by simp only[ne_eq,Addr.mk.injEq,not_and];omega)).trans h.c4,zRA _ _ _ h.c5,(zQ9 _ _ _ _ (by simp only[ne_eq,Addr.mk.injEq,not_and];omega)).trans h.c6,(zQ9 _ _ _ _ (by simp only[ne_eq,Addr.mk.injEq,not_and];omega)).trans h.c7,
  zAM _ _ _ _ h.z4,zAM _ _ _ _ h.z5,zAM _ _ _ _ h.z6,zAM _ _ _ _ h.z7⟩
theorem V4.set2 (h:V4 w b x y z u) (v:Value):V4 (w.setCell ⟨b+1+1,0,none⟩ v) b x y v u:=
 ⟨(zQ9 _ _ _ _ (by simp only[ne_eq,Addr.mk.injEq,not_and];omega)).trans h.c4,(zQ9 _ _ _ _ (by simp only[ne_eq,Addr.mk.injEq,not_and];omega)).trans h.c5,zRA _ _ _ h.c6,(zQ9 _ _ _ _ (by simp only[ne_eq,Addr.mk.injEq,not_and];omega)).trans h.c7,
  zAM _ _ _ _ h.z4,zAM _ _ _ _ h.z5,zAM _ _ _ _ h.z6,zAM _ _ _ _ h.z7⟩
theorem V4.set3 (h:V4 w b x y z u) (v:Value):V4 (w.setCell ⟨b+1+1+1,0,none⟩ v) b x y z v:=
 ⟨(zQ9 _ _ _ _ (by simp only[ne_eq,Addr.mk.injEq,not_and];omega)).trans h.c4,(zQ9 _ _ _ _ (by simp only[ne_eq,Addr.mk.injEq,not_and];omega)).trans h.c5,(zQ9 _ _ _ _ (by simp only[ne_eq,Addr.mk.injEq,not_and];omega)).trans h.c6,zRA _ _ _ h.c7,
  zAM _ _ _ _ h.z4,zAM _ _ _ _ h.z5,zAM _ _ _ _ h.z6,zAM _ _ _ _ h.z7⟩
def st4 (w:World) (b:Nat) (x y z u:Value):World:=(((w.setCell ⟨b,0,none⟩ x).setCell ⟨b+1,0,none⟩ y).setCell ⟨b+1+1,0,none⟩ z).setCell ⟨b+1+1+1,0,none⟩ u
theorem V4.st4 (h:V4 w b x y z u) (x2 y2 z2 u2:Value):V4 (st4 w b x2 y2 z2 u2) b x2 y2 z2 u2:=(((h.set0 x2).set1 y2).set2 z2).set3 u2
theorem zC1 (w:World) (b:Nat) (x y z u:Value):Below b w (st4 w b x y z u):=
 ((((zQs b w).setCell (p:=⟨b,0,none⟩) (zQt _) _).setCell (p:=⟨b+1,0,none⟩) (by show b≤b+1;omega) _).setCell (p:=⟨b+1+1,0,none⟩) (by show b≤b+1+1;omega) _).setCell (p:=⟨b+1+1+1,0,none⟩) (by show b≤b+1+1+1;omega) _
theorem zFq {k:Nat} (hk:k≠b∧k≠b+1∧k≠b+1+1∧k≠b+1+1+1):(st4 w b x y z u).heap[k]?=w.heap[k]?:=by
 unfold Go.Proofs.YtmaagpbjahjmhaaGreatDoor.st4
 rw[zQ1 _ _ _ _ (by show k≠b+1+1+1;omega),zQ1 _ _ _ _ (by show k≠b+1+1;omega),zQ1 _ _ _ _ (by show k≠b+1;omega),zQ1 _ _ _ _ (by show k≠b;omega)]
theorem zJW (p0 p1 p2 p3 p4:Addr) (w:World):
  CallsD Tryz.prog 29 #[.pointer (some p0),.pointer (some p1),.pointer (some p2),.pointer (some p3),.pointer (some p4)] .returning w fun e u' w'=>
   e= .returned (.tuple #[])∧u'= .returning∧w'=w:=by
 have hta: ∀w,(Instr.typeAssert .nilIface 20 78 true).run Tryz.prog w= .ok (.tuple #[.pointer none,.bool false]) w:=fun _=>by kernel_rfl
 have hrep:Array.replicate 23 undef= #[undef,undef,undef,undef,undef,undef,undef,undef,undef,undef,undef,undef,undef,undef,undef,undef,undef,undef,undef,undef,undef,undef,undef]:=rfl
 refine callsD_of_wpS Tryz.func29 rfl fun c₀ cs hu=>?_
 apply wpS_seq
 apply wpS_region
 simp[wpOpsS,go_sem,recoverD,hu,Tryz.ntmps29,Exit.thenS,hta,hrep]
 refine wpS_of_wp ?_
 go_wp2_with fail
 cases c₀
 simp_all[bodyPostS,results,Tryz.results29]
theorem zFK {E:PE} {l:List Value} {i fb er p:Nat} {a:Int} {zz:Addr} (older:List PanicEntry) (hv:V4 w b x y z u) (h:RS E w i l) (hf:w.heap[fb]?=some (.cells #[.int .i64 er,.int .i64 a,.iface 324 (.pointer (some zz))] 83 (0,0)))
  (ho:(zz=E.x∧l[8]?=some (.int .i64 p))∨(zz=E.y∧a=p)) (h0:4<b) (h1:b+1+1+1<E.cb) (h2:fb≠b∧fb≠b+1∧fb≠b+1+1∧fb≠b+1+1+1) (h3:E.x.block<b) (h4:E.y.block<b):
  CallsD Tryz.prog 29 #[.pointer (some ⟨b,0,none⟩),.pointer (some ⟨b+1,0,none⟩),.pointer (some ⟨b+1+1,0,none⟩),.pointer (some ⟨b+1+1+1,0,none⟩),.pointer (some ⟨E.cb,0,none⟩)] (.panicking ({ v:= .iface 78 (.pointer (some ⟨fb,0,none⟩)),recovered:=false } ::older)) w fun e u' w'=>
   e= .returned (.tuple #[])∧u'= .panicking ({ v:= .iface 78 (.pointer (some ⟨fb,0,none⟩)),recovered:=true } ::older)∧V4 w' b (.slice none 0 0) (.bool false) (.int .i64 er) (.int .i64 p)∧Below b w w':=by
 have hta: ∀w,(Instr.typeAssert (.iface 78 (.pointer (some ⟨fb,0,none⟩))) 20 78 true).run Tryz.prog w= .ok (.tuple #[.pointer (some ⟨fb,0,none⟩),.bool true]) w:=fun _=>by kernel_rfl
 have hrep:Array.replicate 23 undef= #[undef,undef,undef,undef,undef,undef,undef,undef,undef,undef,undef,undef,undef,undef,undef,undef,undef,undef,undef,undef,undef,undef,undef]:=rfl
 have HV:=zQr hv
 have HH:=zQr h
 have HF:=zQr hf
 have HO:=zQr ho
 have H0:=zQr h0
 have H1:=zQr h1
 have H2:=zQr h2
 have H3:=zQr h3
 have H4:=zQr h4
 have f0:w.cell? ⟨fb,0,none⟩=some (.int .i64 er):=(zQ6 _ _ 0 _ _ (0,0) hf).trans rfl
 have f1:w.cell? ⟨fb,1,none⟩=some (.int .i64 a):=(zQ6 _ _ 1 _ _ (0,0) hf).trans rfl
 have fl:fb<w.heap.size:=(zQz.1 hf).1
 clear hv h hf ho h0 h1 h2 h3 h4
 refine callsD_of_wpS Tryz.func29 rfl fun c₀ cs hu=>?_
 have hrd:recoverD (c₀::cs)=some (.iface 78 (.pointer (some ⟨fb,0,none⟩)),{ c₀ with mode:= .panicking ({ v:= .iface 78 (.pointer (some ⟨fb,0,none⟩)),recovered:=true } ::older) } ::cs):=by
  simp[recoverD,hu]
 apply wpS_seq
 apply wpS_region
 simp[wpOpsS,go_sem,hrd,Tryz.ntmps29,Exit.thenS,hta,hrep]
 refine wpS_of_wp ?_
 go_upto_region 2 with fail
 obtain⟨c4,c5,c6,c7,z4,z5,z6,z7⟩:=HV.out
 obtain⟨b7,hb7⟩: ∃k,b+1+1+1=k:=⟨_,rfl⟩
 rw[hb7]at c7 z7 ⊢
 obtain⟨b6,hb6⟩: ∃k,b+1+1=k:=⟨_,rfl⟩
 rw[hb6]at c6 z6 ⊢
 obtain⟨b5,hb5⟩: ∃k,b+1=k:=⟨_,rfl⟩
 rw[hb5]at c5 z5 ⊢
 have n45: ¬b=b5:=by omega
 have n46: ¬b=b6:=by omega
 have n47: ¬b=b7:=by omega
 have n56: ¬b5=b6:=by omega
 have n57: ¬b5=b7:=by omega
 have n67: ¬b6=b7:=by omega
 have HB5:=zQr hb5
 have HB6:=zQr hb6
 have HB7:=zQr hb7
 clear hb5 hb6 hb7
 refine zAA (X:=none) 8 [] [0,1,2,3,4,5,6,7] (by kernel_rfl) (by kernel_rfl) rfl (fun _ _ _ _ _ h=>h) ?_
 simp only[zAK,zAC,zAD,zAB,List.getD_cons_zero,List.getD_cons_succ,List.drop_succ_cons,List.drop_zero]
 repeat (go_big_quiet_step (fail))
 refine wpQuiet_nil ?_
 go_upto_region 3 with fail
 have hb5:=HB5.out
 have hb6:=HB6.out
 have hb7:=HB7.out
 clear n45 n46 n47 n56 n57 n67 HB5 HB6 HB7
 subst hb5 hb6 hb7
 have HW:Hid ((((w.setCell ⟨b,0,none⟩ (.slice none 0 0)).setCell ⟨b+1,0,none⟩ (.bool false)).setCell ⟨b+1+1,0,none⟩ (.int .i64 er)).setCell ⟨b+1+1+1,0,none⟩ (.int .i64 a)=st4 w b (.slice none 0 0) (.bool false) (.int .i64 er) (.int .i64 a)):=zQr rfl
 rw[HW.out]
 have HB4:Hid (Below b w (st4 w b (.slice none 0 0) (.bool false) (.int .i64 er) (.int .i64 a)).drew):=zQr (zC1 w b (.slice none 0 0) (.bool false) (.int .i64 er) (.int .i64 a)).drew
 have HV4:Hid (V4 (st4 w b (.slice none 0 0) (.bool false) (.int .i64 er) (.int .i64 a)).drew b (.slice none 0 0) (.bool false) (.int .i64 er) (.int .i64 a)):=zQr ((HV.out.st4 (.slice none 0 0) (.bool false) (.int .i64 er) (.int .i64 a)).keep fun _ _ _=>rfl)
 have g0:(st4 w b (.slice none 0 0) (.bool false) (.int .i64 er) (.int .i64 a)).drew.cell? ⟨0,0,none⟩=some (.iface 324 (.pointer (some E.x))):=((zC1 w b _ _ _ _).cell (p:=⟨0,0,none⟩) (by show 0<b;have:=H0.out;omega)).trans HH.out.g.g0
 have f2:(st4 w b (.slice none 0 0) (.bool false) (.int .i64 er) (.int .i64 a)).drew.cell? ⟨fb,2,none⟩=some (.iface 324 (.pointer (some zz))):=(zQv (w:=w) (a:=⟨fb,2,none⟩) (zFq H2.out)).trans ((zQ6 _ _ 2 _ _ (0,0) HF.out).trans rfl)
 have HX:Hid (∃cx tx,(st4 w b (.slice none 0 0) (.bool false) (.int .i64 er) (.int .i64 a)).drew.heap[E.x.block]?=some (.cells cx tx (0,0))):=zQr (HH.out.g.hx.imp fun _ e=>e.imp fun _ e=>((zC1 w b _ _ _ _).block _ H3.out).trans e)
 have HY:Hid (∃cy ty,(st4 w b (.slice none 0 0) (.bool false) (.int .i64 er) (.int .i64 a)).drew.heap[E.y.block]?=some (.cells cy ty (0,0))):=zQr (HH.out.g.hy.imp fun _ e=>e.imp fun _ e=>((zC1 w b _ _ _ _).block _ H4.out).trans e)
 have HC:Hid ((st4 w b (.slice none 0 0) (.bool false) (.int .i64 er) (.int .i64 a)).drew.heap[E.cb]?=some (.cells l.toArray 36 (0,0))):=zQr ((zFq (by have:=H1.out;omega)).trans HH.out.c)
 have HNE:=zQr HH.out.g.ne
 obtain⟨W4,hW4⟩: ∃W,(st4 w b (.slice none 0 0) (.bool false) (.int .i64 er) (.int .i64 a)).drew=W:=⟨_,rfl⟩
 rw[hW4]at g0 f2 HX HY HC HB4 HV4 ⊢
 clear hW4 HW c4 c5 c6 c7 z4 z5 z6 z7 f0 f1 fl
 rcases HO.out with ⟨rfl,h8⟩|⟨rfl,rfl⟩
 ·have c8:W4.cell? ⟨E.cb,8,none⟩=some (.int .i64 p):=(zQ6 _ _ 8 _ _ (0,0) HC.out).trans (by simpa using h8)
  have HI:=zQr (zPI f2)
  have c7:=HV4.out.c7
  have z7:=HV4.out.z7
  clear h8
  go_wp2_with fail
  refine HI.out.mono ?_;rintro e w9 ⟨rfl,rfl⟩
  go_wp2_with fail
  exact⟨rfl,_,rfl,.tuple #[],results_none Tryz.results29 _ _ _,rfl,rfl,HV4.out.set3 _,HB4.out.setCell (p:=⟨b+1+1+1,0,none⟩) (by show b≤b+1+1+1;omega) _⟩
 ·obtain⟨cx,tx,hx⟩:=HX.out
  obtain⟨cy,ty,hy⟩:=HY.out
  have HI:=zQr (zN3 (Ne.symm HNE.out) hy hx f2)
  clear hx hy
  go_wp2_with fail
  refine HI.out.mono ?_;rintro e w9 ⟨rfl,rfl⟩
  go_wp2_with fail
  exact⟨rfl,_,rfl,.tuple #[],results_none Tryz.results29 _ _ _,rfl,rfl,HV4.out,HB4.out⟩
end
end
end Go.Proofs.YtmaagpbjahjmhaaGreatDoor
