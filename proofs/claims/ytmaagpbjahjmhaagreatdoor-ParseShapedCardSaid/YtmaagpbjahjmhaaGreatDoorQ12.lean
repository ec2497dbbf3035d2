/- Parts: Rn. -/
import Derived.Test.YtmaagpbjahjmhaaGreatDoorQ6
import Derived.Test.YtmaagpbjahjmhaaGreatDoorQ0
import Derived.Defers
import Derived.Recover
import Derived.Laws.EntriesVeiled
set_option maxHeartbeats 1600000
set_option maxRecDepth 100000
namespace Go.Proofs.YtmaagpbjahjmhaaGreatDoor
open Go.RowKit
theorem zC9 {X:List Nat} {w:World} {B:Nat} (v:Value) (o:Obj) (hB:B∈X):Two.zAJ X (w.alloc o).drew ((w.setCell ⟨B,0,none⟩ v).alloc o).drew:=
 ⟨by show(w.alloc o).heap.size≤((w.setCell ⟨B,0,none⟩ v).alloc o).heap.size;simp,fun a _ hX=>zQv (w:=(w.alloc o).drew) (by
  show((w.setCell ⟨B,0,none⟩ v).heap.push o)[a.block]?=(w.heap.push o)[a.block]?
  rw[Array.getElem?_push,Array.getElem?_push,show(w.setCell ⟨B,0,none⟩ v).heap.size=w.heap.size by simp]
  split
  ·rfl
  ·exact zQ1 _ _ _ _ (by show a.block≠B;exact fun h=>hX (h▸hB)))⟩
theorem zHA (p4 p5 p6:Addr) (w:World):
  CallsD Tryz.prog 179 #[.pointer (some p4),.pointer (some p5),.pointer (some p6)] .returning w fun e u' w'=>
   e= .returned (.tuple #[])∧u'= .returning∧w'=w.alloc (.cells #[.int .i64 0,.int .i64 0] 234):=by
 have hta: ∀w,(Instr.typeAssert .nilIface 20 234 true).run Tryz.prog w= .ok (.tuple #[.agg #[.int .i64 0,.int .i64 0],.bool false]) w:=fun _=>by kernel_rfl
 have hrep:Array.replicate 12 undef= #[undef,undef,undef,undef,undef,undef,undef,undef,undef,undef,undef,undef]:=rfl
 refine callsD_of_wpS Tryz.func179 rfl fun c₀ cs hu=>?_
 apply wpS_seq
 apply wpS_region
 simp[wpOpsS,go_sem,recoverD,hu,Tryz.ntmps179,Exit.thenS,hta,hrep]
 refine wpS_of_wp ?_
 go_wp2_with fail
 cases c₀
 simp_all[bodyPostS,results,Tryz.results179]
theorem zJy (b4 b5 b6:Nat) (er pl:Nat) (older:List PanicEntry) (w:World) {c4 c5 c6:Value} (h4:w.cell? ⟨b4,0,none⟩=some c4) (h5:w.cell? ⟨b5,0,none⟩=some c5) (h6:w.cell? ⟨b6,0,none⟩=some c6)
  (z4:w.frozen? ⟨b4,0,none⟩=false) (z5:w.frozen? ⟨b5,0,none⟩=false) (z6:w.frozen? ⟨b6,0,none⟩=false) (n45: ¬b4=b5) (n46: ¬b4=b6) (n56: ¬b5=b6):
  CallsD Tryz.prog 179 #[.pointer (some ⟨b4,0,none⟩),.pointer (some ⟨b5,0,none⟩),.pointer (some ⟨b6,0,none⟩)] (.panicking ({ v:=zG9 er pl,recovered:=false } ::older)) w fun e u' w'=>
   e= .returned (.tuple #[])∧u'= .panicking ({ v:=zG9 er pl,recovered:=true } ::older)∧
    w'=((((w.setCell ⟨b4,0,none⟩ (.slice none 0 0)).setCell ⟨b5,0,none⟩ (.int .i64 er)).setCell ⟨b6,0,none⟩ (.int .i64 pl)).alloc (.cells #[.int .i64 er,.int .i64 pl] 234)).drew:=by
 have hta: ∀w,(Instr.typeAssert (.iface 234 (.agg #[.int .i64 er,.int .i64 pl])) 20 234 true).run Tryz.prog w= .ok (.tuple #[.agg #[.int .i64 er,.int .i64 pl],.bool true]) w:=fun _=>by kernel_rfl
 have hrep:Array.replicate 12 undef= #[undef,undef,undef,undef,undef,undef,undef,undef,undef,undef,undef,undef]:=rfl
 have hb4:b4<w.heap.size:=zRO w _ h4
 have hb5:b5<w.heap.size:=zRO w _ h5
 have hb6:b6<w.heap.size:=zRO w _ h6
 refine callsD_of_wpS Tryz.func179 rfl fun c₀ cs hu=>?_
 have hrd:recoverD (c₀::cs)=some (.iface 234 (.agg #[.int .i64 er,.int .i64 pl]),{ c₀ with mode:= .panicking ({ v:=zG9 er pl,recovered:=true } ::older) } ::cs):=by
  simp[recoverD,hu,zG9]
 apply wpS_seq
 apply wpS_region
 simp[wpOpsS,go_sem,hrd,Tryz.ntmps179,Exit.thenS,hta,hrep]
 refine wpS_of_wp ?_
 go_wp2_with fail
 have n4: ¬b4=w.heap.size:=by omega
 have n5: ¬b5=w.heap.size:=by omega
 have hB:(w.alloc (.cells #[.int .i64 (er:Nat),.int .i64 (pl:Nat)] 234)).heap[w.heap.size]?=some (.cells #[.int .i64 (er:Nat),.int .i64 (pl:Nat)] 234 (0,0)):=zQ4 w _
 have hB0:(w.alloc (.cells #[.int .i64 (er:Nat),.int .i64 (pl:Nat)] 234)).cell? ⟨w.heap.size,0,none⟩=some (.int .i64 (er:Nat)):=(zQ6 _ _ 0 _ _ (0,0) hB).trans rfl
 have hB1:(w.alloc (.cells #[.int .i64 (er:Nat),.int .i64 (pl:Nat)] 234)).cell? ⟨w.heap.size,1,none⟩=some (.int .i64 (pl:Nat)):=(zQ6 _ _ 1 _ _ (0,0) hB).trans rfl
 have hBl:w.heap.size<(w.alloc (.cells #[.int .i64 (er:Nat),.int .i64 (pl:Nat)] 234)).heap.size:=by simp
 refine Two.zAA (X:=[b4,b5]) 6 [([0,1,2,3],4),([],5)] [] (by kernel_rfl) (by kernel_rfl) rfl (fun _ _ _ _ _ h=>h) ?_
 simp only[Two.zAK,Two.zAC,Two.zAE,Two.zAD,Two.zAB,List.getD_cons_zero,List.getD_cons_succ,List.drop_succ_cons,List.drop_zero]
 repeat (go_big_quiet_step (fail))
 refine wpQuiet_nil ?_
 go_wp2_with fail
 refine⟨zC9 _ _ (by simp),wpQuiet_nil ?_⟩
 go_wp2_with fail
 refine⟨zC9 _ _ (by simp),wpQuiet_nil ?_⟩
 go_wp2_with fail
 exact⟨rfl,_,rfl,.tuple #[],results_none Tryz.results179 _ _ _,rfl,rfl,rfl⟩
end Go.Proofs.YtmaagpbjahjmhaaGreatDoor
