/- Contracts: Takes of a command without addresses; package step: command (p). No condition. -/
import Derived.Test.YtdinjlglngpecaaGreatDoorSm
import Derived.Deep.WholeRow
namespace Go.Proofs.YtdinjlglngpecaaGreatDoor
open Go.RowKit

/-- A range is loaded in a region that draws its order. -/
theorem quiet_mid {P : Program} {o : Oper} {a : Act} {W : World} {K : Act → Prop} (ty : TypeId) (x : Operand) (ho : o.op = .load ty x) (b off : Nat) (hx : a.eval x = .pointer (some ⟨b, off, none⟩)) (cs : List Value) (d : TypeDesc) (hc : W.rangeAt b off cs) (hb : b < W.heap.size)
    (hu : P.underlying ty = some d) (hd : d.isRow = true) (hi : (P.info? ty).map (·.size) = some cs.length) (hk : K (a.put o.dst (.agg cs.toArray))) : o.quiet P a (fun w' => ∃ g, w' = wgr none W g) K := by
  refine ⟨_, fun w hw => ?_, hk⟩
  obtain ⟨g, rfl⟩ := hw
  have hr : (wgr none W g).rangeAt b off cs := fun j v hv => ((keeps_wgr (X := none) W g).cell ⟨b, off + j, none⟩ hb (by simp)).trans (hc j v hv)
  unfold Oper.quietAt execOp
  simp only [ho, hx, Instr.loadAt, Instr.sureAddr, Sem.run_bind, Sem.run_pure, Result.andThen_ok, run_loadVar_mid _ b off ty cs d hr hu hd hi]
  exact ⟨rfl, rfl⟩
section
variable {w w' w2 : World} {k : CK} {s s' : CS} {T T' X : List Nat} {pk pk' : Option Nat} {base : Nat} {mu : Bool} {oa : Option Addr} {m ca n n' u u' z z' : Nat} {O O' : Nat → Option Nat} {A A' : List Nat}
set_option maxRecDepth 100000 in
set_option maxHeartbeats 3200000 in
theorem takes_none {cs : Array Value} (hka : cs[0]? = some (.int .i8 0)) (hnt : cs[6]? = some (.bool false)) {gb : Nat} {og : Option Addr} {nc cg : Nat} (hg : w.cell? ⟨gb, 0, none⟩ = some (.slice og nc cg)) (hn : 0 < nc) (line : Int) (last : Bool) (fn : Fn) (fs fc : Array Value) :
    Calls Tryz.prog 68 #[.pointer (some ⟨gb, 0, none⟩), .int .i64 0, .agg cs, .int .i64 line, .bool last, .func fn fs fc] w fun e w' => e = .returned (.tuple #[.bool true, .bool false]) ∧ Below w.heap.size w w' := by
  have hmf : ∀ (fn : Fn) (first cap : Array Value) (w : World), (Instr.makeFunc fn first cap).run Tryz.prog w = .ok (.func fn first cap) w := fun _ _ _ _ => rfl
  have hgl : gb < w.heap.size := World.block_lt_of_cell? w _ hg
  have hB : Below w.heap.size w ((((w.alloc (.cells cs 60)).alloc (.cells #[.int .i64 line] 3)).alloc (.cells #[.bool last] 4)).alloc (.cells #[.func fn fs fc] 137)) := ((((Below.refl _ _).alloc (Nat.le_refl _) _).alloc (by simp) _).alloc (by simp; omega) _).alloc (by simp; omega) _
  have hcl : ∀ j, ((((w.alloc (.cells cs 60)).alloc (.cells #[.int .i64 line] 3)).alloc (.cells #[.bool last] 4)).alloc (.cells #[.func fn fs fc] 137)).cell? ⟨w.heap.size, j, none⟩ = cs[j]? := fun j => by
    have h1 : (w.alloc (.cells cs 60)).heap[w.heap.size]? = some (.cells cs 60 (0, 0)) := heap_alloc_new w _
    have h2 := (heap_alloc_old (((w.alloc (.cells cs 60)).alloc (.cells #[.int .i64 line] 3)).alloc (.cells #[.bool last] 4)) (.cells #[.func fn fs fc] 137) (r := w.heap.size) (by simp; omega)).trans ((heap_alloc_old ((w.alloc (.cells cs 60)).alloc (.cells #[.int .i64 line] 3)) (.cells #[.bool last] 4) (r := w.heap.size) (by simp; omega)).trans ((heap_alloc_old (w.alloc (.cells cs 60)) (.cells #[.int .i64 line] 3) (r := w.heap.size) (by simp)).trans h1))
    rw [cell_of_row _ _ j _ _ (0, 0) h2]
  have HG := Lib.hid ((hB.cell (p := ⟨gb, 0, none⟩) hgl).trans hg)
  have HB := Lib.hid hB
  have HCL := Lib.hid hcl
  have HS : Hid (w.heap.size < ((((w.alloc (.cells cs 60)).alloc (.cells #[.int .i64 line] 3)).alloc (.cells #[.bool last] 4)).alloc (.cells #[.func fn fs fc] 137)).heap.size) := Lib.hid (by simp; omega)
  have hnc : (0 : Int) < (nc : Int) := by omega
  clear hg hn hB hcl
  go_enter Tryz.func68, Tryz.ntmps68
  go_upto_region 1 with fail
  obtain ⟨W, hW⟩ : ∃ W, (((w.alloc (.cells cs 60)).alloc (.cells #[.int .i64 line] 3)).alloc (.cells #[.bool last] 4)).alloc (.cells #[.func fn fs fc] 137) = W := ⟨_, rfl⟩
  rw [hW] at HG HB HCL HS ⊢
  clear hW
  obtain ⟨c, hcz⟩ : ∃ c, w.heap.size = c := ⟨_, rfl⟩
  rw [hcz] at HB HCL HS hgl ⊢
  have HCZ := Lib.hid hcz
  clear hcz
  have g0 := HG.out
  have hgl' : gb < W.heap.size := by have := HS.out; omega
  have hcl' := HS.out
  have a0 := (HCL.out 0).trans hka
  have a6 := (HCL.out 6).trans hnt
  clear hka hnt
  go_wp2_with fail
  go_ret2
  exact ⟨rfl, HCZ.out ▸ HB.out⟩
end
end Go.Proofs.YtdinjlglngpecaaGreatDoor
